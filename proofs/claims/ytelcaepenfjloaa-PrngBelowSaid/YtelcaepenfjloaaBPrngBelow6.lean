/- The proof of the statement PrngBelow of the seat, part 6 of 6: the functions that it reaches, as plain functions, with the walks that show it, and what they come to; the last part ends in the row. No condition beyond the statement's own. -/
import Derived.IntWalk
import Derived.Test.YtelcaepenfjloaaRows
import Derived.WalkKit
import Derived.ProofKit
import Derived.OpenShut
import Derived.ShutString
import Derived.ChangeOld
import Derived.Below
import Derived.SizedLaws
import Derived.Carry
import Derived.Test.YtelcaepenfjloaaBPrngBelow1
import Derived.Test.YtelcaepenfjloaaBPrngBelow2
import Derived.Test.YtelcaepenfjloaaBPrngBelow4
import Derived.Test.YtelcaepenfjloaaBPrngBelow5
/-! #### Pr17 -/
namespace Go.Proofs.Ytelcaepenfjloaa.Print
open Go.RowKit Go.Proofs.YtelcaepenfjloaaW.PrintWords Go.Proofs.YtelcaepenfjloaaW.PrintLast Go.Proofs.YtelcaepenfjloaaW.PrintMore
attribute [local go_sem] max2_int min2_int max_two min_two max_three min_three max_four min_four
set_option linter.unusedVariables false
set_option linter.unusedSimpArgs false
/-! ### mosaiclaw04_PrngDraws: function 17 -/
mutual
def mosaiclaw04_PrngDraws.j0:Nat→ByteArray→List (S90)→Bool→ByteArray→Int→ByteArray→Option (Bool)
 | 0,_,_,_,_,_,_=>none
 | k+1,x0,x1,x24,x543000,x543001,x543002=>if x24=true then ((mosaiclaw04_awake.f k).bind fun t544=>(if t544=true then (some false) else (some false))) else (mosaiclaw04_PrngDraws.l0 k x1 0 x543000 x543001 x543002 x0 0)
def mosaiclaw04_PrngDraws.l0:Nat→List (S90)→Int→ByteArray→Int→ByteArray→ByteArray→Int→Option (Bool)
 | 0,_,_,_,_,_,_,_=>none
 | k+1,x1,x7,x543000,x543001,x543002,x546000,x546001=>if x7 < (x1.length:Int) then (mosaiclaw04_PrngDraws.j2 k x1 x7 (decide (x7 < 20)) x543000 x543001 x543002 x546000 x546001) else (mosaiclaw04_PrngDraws.j2 k x1 x7 false x543000 x543001 x543002 x546000 x546001)
def mosaiclaw04_PrngDraws.j2:Nat→List (S90)→Int→Bool→ByteArray→Int→ByteArray→ByteArray→Int→Option (Bool)
 | 0,_,_,_,_,_,_,_,_=>none
 | k+1,x1,x7,x39,x543000,x543001,x543002,x546000,x546001=>if x39=true then (if 0≤x7 then (if x7 < (x1.length:Int) then (if ((rd_T90 x1 x7).f0)=0 then ((mosaicref04_Gen_Word.f k x546000 x546001).bind fun bt548=>((prng_Gen_Word.f k x543000 x543001 x543002).bind fun bt552=>(if (wrap64 (bt552.1))=bt548.2.2 then ((prng_Gen_Used.f bt552.2.1 bt552.2.2.1 bt552.2.2.2).bind fun bt556=>(if bt556.1=bt548.2.1 then (mosaiclaw04_PrngDraws.l0 k x1 (wrap64 (x7+1)) bt556.2.1 bt556.2.2.1 bt556.2.2.2 bt548.1 bt548.2.1) else (some false))) else (some false)))) else (if ((rd_T90 x1 x7).f0)=1 then ((mosaicref04_Gen_Below.f k x546000 x546001 ((rd_T90 x1 x7).f1)).bind fun bt560=>((prng_Gen_Below.f k x543000 x543001 x543002 ((rd_T90 x1 x7).f1)).bind fun bt564=>(if bt564.1=bt560.2.2 then ((prng_Gen_Used.f bt564.2.1 bt564.2.2.1 bt564.2.2.2).bind fun bt568=>(if bt568.1=bt560.2.1 then (mosaiclaw04_PrngDraws.l0 k x1 (wrap64 (x7+1)) bt568.2.1 bt568.2.2.1 bt568.2.2.2 bt560.1 bt560.2.1) else (some false))) else (some false)))) else (if ((rd_T90 x1 x7).f0)=2 then (if ((rd_T90 x1 x7).f1) > 200 then (mosaiclaw04_PrngDraws.j3 k x1 x7 (decide (((rd_T90 x1 x7).f1)≤4096)) x543000 x543001 x543002 x546000 x546001 ((rd_T90 x1 x7).f0) ((rd_T90 x1 x7).f1) ((rd_T90 x1 x7).f2)) else (mosaiclaw04_PrngDraws.j3 k x1 x7 false x543000 x543001 x543002 x546000 x546001 ((rd_T90 x1 x7).f0) ((rd_T90 x1 x7).f1) ((rd_T90 x1 x7).f2))) else ((prng_Gen_Used.f x543000 x543001 x543002).bind fun bt589=>(if bt589.1=x546001 then (mosaiclaw04_PrngDraws.l0 k x1 (wrap64 (x7+1)) bt589.2.1 bt589.2.2.1 bt589.2.2.2 x546000 x546001) else (some false)))))) else (none)) else (none)) else (some true)
def mosaiclaw04_PrngDraws.j3:Nat→List (S90)→Int→Bool→ByteArray→Int→ByteArray→ByteArray→Int→Int→Int→Int→Option (Bool)
 | 0,_,_,_,_,_,_,_,_,_,_,_=>none
 | k+1,x1,x7,x84,x543000,x543001,x543002,x546000,x546001,x548000,x548001,x548002=>if x84=true then (mosaiclaw04_PrngDraws.j4 k x1 x7 x543000 x543001 x543002 x546000 x546001 x548000 200 x548002) else (mosaiclaw04_PrngDraws.j4 k x1 x7 x543000 x543001 x543002 x546000 x546001 x548000 x548001 x548002)
def mosaiclaw04_PrngDraws.j4:Nat→List (S90)→Int→ByteArray→Int→ByteArray→ByteArray→Int→Int→Int→Int→Option (Bool)
 | 0,_,_,_,_,_,_,_,_,_,_=>none
 | k+1,x1,x7,x543000,x543001,x543002,x546000,x546001,x548000,x548001,x548002=>(mosaicref04_Gen_Pick.f k x546000 x546001 x548001 x548002).bind fun bt572=>((prng_Gen_Pick.f k x543000 x543001 x543002 x548001 x548002).bind fun bt578=>((mosaicref04_Same.f k bt578.1 bt572.2.2).bind fun t584=>(if t584=true then ((prng_Gen_Used.f bt578.2.1 bt578.2.2.1 bt578.2.2.2).bind fun bt585=>(if bt585.1=bt572.2.1 then (mosaiclaw04_PrngDraws.l0 k x1 (wrap64 (x7+1)) bt585.2.1 bt585.2.2.1 bt585.2.2.2 bt572.1 bt572.2.1) else (some false))) else (some false))))
end
def mosaiclaw04_PrngDraws.f (k:Nat) (a0:ByteArray) (l1:List (S90)):Option (Bool):=(prng_New.f a0).bind fun bt539=>((mosaiclaw04_awake.f k).bind fun t543=>(if t543=true then (if (a0.size:Int) > 64 then (mosaiclaw04_PrngDraws.j0 k a0 l1 true bt539.1 bt539.2.1 bt539.2.2) else (mosaiclaw04_PrngDraws.j0 k a0 l1 false bt539.1 bt539.2.1 bt539.2.2)) else (mosaiclaw04_PrngDraws.j0 k a0 l1 true bt539.1 bt539.2.1 bt539.2.2)))
theorem mosaiclaw04_PrngDraws.mono_l:∀ k,(∀ y0 y1 y2 y3 y4 y5,LeO (mosaiclaw04_PrngDraws.j0 k y0 y1 y2 y3 y4 y5) (mosaiclaw04_PrngDraws.j0 (k+1) y0 y1 y2 y3 y4 y5))∧(∀ y0 y1 y2 y3 y4 y5 y6,LeO (mosaiclaw04_PrngDraws.l0 k y0 y1 y2 y3 y4 y5 y6) (mosaiclaw04_PrngDraws.l0 (k+1) y0 y1 y2 y3 y4 y5 y6))∧(∀ y0 y1 y2 y3 y4 y5 y6 y7,LeO (mosaiclaw04_PrngDraws.j2 k y0 y1 y2 y3 y4 y5 y6 y7) (mosaiclaw04_PrngDraws.j2 (k+1) y0 y1 y2 y3 y4 y5 y6 y7))∧(∀ y0 y1 y2 y3 y4 y5 y6 y7 y8 y9 y10,LeO (mosaiclaw04_PrngDraws.j3 k y0 y1 y2 y3 y4 y5 y6 y7 y8 y9 y10) (mosaiclaw04_PrngDraws.j3 (k+1) y0 y1 y2 y3 y4 y5 y6 y7 y8 y9 y10))∧(∀ y0 y1 y2 y3 y4 y5 y6 y7 y8 y9,LeO (mosaiclaw04_PrngDraws.j4 k y0 y1 y2 y3 y4 y5 y6 y7 y8 y9) (mosaiclaw04_PrngDraws.j4 (k+1) y0 y1 y2 y3 y4 y5 y6 y7 y8 y9))
 | 0=>⟨fun _ _ _ _ _ _ r h=>by simp [mosaiclaw04_PrngDraws.j0] at h,fun _ _ _ _ _ _ _ r h=>by simp [mosaiclaw04_PrngDraws.l0] at h,fun _ _ _ _ _ _ _ _ r h=>by simp [mosaiclaw04_PrngDraws.j2] at h,fun _ _ _ _ _ _ _ _ _ _ _ r h=>by simp [mosaiclaw04_PrngDraws.j3] at h,fun _ _ _ _ _ _ _ _ _ _ r h=>by simp [mosaiclaw04_PrngDraws.j4] at h⟩
 | k+1=>by
  obtain ⟨ih0,ih1,ih2,ih3,ih4⟩:=mosaiclaw04_PrngDraws.mono_l k
  refine ⟨?_,?_,?_,?_,?_⟩
  ·
   intro y0 y1 y2 y3 y4 y5
   unfold mosaiclaw04_PrngDraws.j0
   repeat' first
   | (with_reducible exact ih0 _ _ _ _ _ _)
   | (with_reducible exact ih1 _ _ _ _ _ _ _)
   | (with_reducible exact ih2 _ _ _ _ _ _ _ _)
   | (with_reducible exact ih3 _ _ _ _ _ _ _ _ _ _ _)
   | (with_reducible exact ih4 _ _ _ _ _ _ _ _ _ _)
   | (with_reducible exact mosaiclaw04_awake.mono _)
   | (with_reducible exact mosaicref04_Gen_Below.mono _ _ _ _)
   | (with_reducible exact mosaicref04_Gen_Pick.mono _ _ _ _ _)
   | (with_reducible exact mosaicref04_Gen_Word.mono _ _ _)
   | (with_reducible exact mosaicref04_Same.mono _ _ _)
   | (with_reducible exact prng_Gen_Below.mono _ _ _ _ _)
   | (with_reducible exact prng_Gen_Pick.mono _ _ _ _ _ _)
   | (with_reducible exact prng_Gen_Word.mono _ _ _ _)
   | (with_reducible exact LeO.refl _)
   | (with_reducible exact LeO.none _)
   | (with_reducible refine LeO.ite ?_ ?_)
   | (with_reducible refine LeO.bind ?_ (fun _=>?_))
   | exact ih0 _ _ _ _ _ _
   | exact ih1 _ _ _ _ _ _ _
   | exact ih2 _ _ _ _ _ _ _ _
   | exact ih3 _ _ _ _ _ _ _ _ _ _ _
   | exact ih4 _ _ _ _ _ _ _ _ _ _
   | exact mosaiclaw04_awake.mono _
   | exact mosaicref04_Gen_Below.mono _ _ _ _
   | exact mosaicref04_Gen_Pick.mono _ _ _ _ _
   | exact mosaicref04_Gen_Word.mono _ _ _
   | exact mosaicref04_Same.mono _ _ _
   | exact prng_Gen_Below.mono _ _ _ _ _
   | exact prng_Gen_Pick.mono _ _ _ _ _ _
   | exact prng_Gen_Word.mono _ _ _ _
   | exact LeO.none _
   | refine LeO.ite ?_ ?_
   | refine LeO.bind ?_ (fun _=>?_)
  ·
   intro y0 y1 y2 y3 y4 y5 y6
   unfold mosaiclaw04_PrngDraws.l0
   repeat' first
   | (with_reducible exact ih0 _ _ _ _ _ _)
   | (with_reducible exact ih1 _ _ _ _ _ _ _)
   | (with_reducible exact ih2 _ _ _ _ _ _ _ _)
   | (with_reducible exact ih3 _ _ _ _ _ _ _ _ _ _ _)
   | (with_reducible exact ih4 _ _ _ _ _ _ _ _ _ _)
   | (with_reducible exact mosaiclaw04_awake.mono _)
   | (with_reducible exact mosaicref04_Gen_Below.mono _ _ _ _)
   | (with_reducible exact mosaicref04_Gen_Pick.mono _ _ _ _ _)
   | (with_reducible exact mosaicref04_Gen_Word.mono _ _ _)
   | (with_reducible exact mosaicref04_Same.mono _ _ _)
   | (with_reducible exact prng_Gen_Below.mono _ _ _ _ _)
   | (with_reducible exact prng_Gen_Pick.mono _ _ _ _ _ _)
   | (with_reducible exact prng_Gen_Word.mono _ _ _ _)
   | (with_reducible exact LeO.refl _)
   | (with_reducible exact LeO.none _)
   | (with_reducible refine LeO.ite ?_ ?_)
   | (with_reducible refine LeO.bind ?_ (fun _=>?_))
   | exact ih0 _ _ _ _ _ _
   | exact ih1 _ _ _ _ _ _ _
   | exact ih2 _ _ _ _ _ _ _ _
   | exact ih3 _ _ _ _ _ _ _ _ _ _ _
   | exact ih4 _ _ _ _ _ _ _ _ _ _
   | exact mosaiclaw04_awake.mono _
   | exact mosaicref04_Gen_Below.mono _ _ _ _
   | exact mosaicref04_Gen_Pick.mono _ _ _ _ _
   | exact mosaicref04_Gen_Word.mono _ _ _
   | exact mosaicref04_Same.mono _ _ _
   | exact prng_Gen_Below.mono _ _ _ _ _
   | exact prng_Gen_Pick.mono _ _ _ _ _ _
   | exact prng_Gen_Word.mono _ _ _ _
   | exact LeO.none _
   | refine LeO.ite ?_ ?_
   | refine LeO.bind ?_ (fun _=>?_)
  ·
   intro y0 y1 y2 y3 y4 y5 y6 y7
   unfold mosaiclaw04_PrngDraws.j2
   repeat' first
   | (with_reducible exact ih0 _ _ _ _ _ _)
   | (with_reducible exact ih1 _ _ _ _ _ _ _)
   | (with_reducible exact ih2 _ _ _ _ _ _ _ _)
   | (with_reducible exact ih3 _ _ _ _ _ _ _ _ _ _ _)
   | (with_reducible exact ih4 _ _ _ _ _ _ _ _ _ _)
   | (with_reducible exact mosaiclaw04_awake.mono _)
   | (with_reducible exact mosaicref04_Gen_Below.mono _ _ _ _)
   | (with_reducible exact mosaicref04_Gen_Pick.mono _ _ _ _ _)
   | (with_reducible exact mosaicref04_Gen_Word.mono _ _ _)
   | (with_reducible exact mosaicref04_Same.mono _ _ _)
   | (with_reducible exact prng_Gen_Below.mono _ _ _ _ _)
   | (with_reducible exact prng_Gen_Pick.mono _ _ _ _ _ _)
   | (with_reducible exact prng_Gen_Word.mono _ _ _ _)
   | (with_reducible exact LeO.refl _)
   | (with_reducible exact LeO.none _)
   | (with_reducible refine LeO.ite ?_ ?_)
   | (with_reducible refine LeO.bind ?_ (fun _=>?_))
   | exact ih0 _ _ _ _ _ _
   | exact ih1 _ _ _ _ _ _ _
   | exact ih2 _ _ _ _ _ _ _ _
   | exact ih3 _ _ _ _ _ _ _ _ _ _ _
   | exact ih4 _ _ _ _ _ _ _ _ _ _
   | exact mosaiclaw04_awake.mono _
   | exact mosaicref04_Gen_Below.mono _ _ _ _
   | exact mosaicref04_Gen_Pick.mono _ _ _ _ _
   | exact mosaicref04_Gen_Word.mono _ _ _
   | exact mosaicref04_Same.mono _ _ _
   | exact prng_Gen_Below.mono _ _ _ _ _
   | exact prng_Gen_Pick.mono _ _ _ _ _ _
   | exact prng_Gen_Word.mono _ _ _ _
   | exact LeO.none _
   | refine LeO.ite ?_ ?_
   | refine LeO.bind ?_ (fun _=>?_)
  ·
   intro y0 y1 y2 y3 y4 y5 y6 y7 y8 y9 y10
   unfold mosaiclaw04_PrngDraws.j3
   repeat' first
   | (with_reducible exact ih0 _ _ _ _ _ _)
   | (with_reducible exact ih1 _ _ _ _ _ _ _)
   | (with_reducible exact ih2 _ _ _ _ _ _ _ _)
   | (with_reducible exact ih3 _ _ _ _ _ _ _ _ _ _ _)
   | (with_reducible exact ih4 _ _ _ _ _ _ _ _ _ _)
   | (with_reducible exact mosaiclaw04_awake.mono _)
   | (with_reducible exact mosaicref04_Gen_Below.mono _ _ _ _)
   | (with_reducible exact mosaicref04_Gen_Pick.mono _ _ _ _ _)
   | (with_reducible exact mosaicref04_Gen_Word.mono _ _ _)
   | (with_reducible exact mosaicref04_Same.mono _ _ _)
   | (with_reducible exact prng_Gen_Below.mono _ _ _ _ _)
   | (with_reducible exact prng_Gen_Pick.mono _ _ _ _ _ _)
   | (with_reducible exact prng_Gen_Word.mono _ _ _ _)
   | (with_reducible exact LeO.refl _)
   | (with_reducible exact LeO.none _)
   | (with_reducible refine LeO.ite ?_ ?_)
   | (with_reducible refine LeO.bind ?_ (fun _=>?_))
   | exact ih0 _ _ _ _ _ _
   | exact ih1 _ _ _ _ _ _ _
   | exact ih2 _ _ _ _ _ _ _ _
   | exact ih3 _ _ _ _ _ _ _ _ _ _ _
   | exact ih4 _ _ _ _ _ _ _ _ _ _
   | exact mosaiclaw04_awake.mono _
   | exact mosaicref04_Gen_Below.mono _ _ _ _
   | exact mosaicref04_Gen_Pick.mono _ _ _ _ _
   | exact mosaicref04_Gen_Word.mono _ _ _
   | exact mosaicref04_Same.mono _ _ _
   | exact prng_Gen_Below.mono _ _ _ _ _
   | exact prng_Gen_Pick.mono _ _ _ _ _ _
   | exact prng_Gen_Word.mono _ _ _ _
   | exact LeO.none _
   | refine LeO.ite ?_ ?_
   | refine LeO.bind ?_ (fun _=>?_)
  ·
   intro y0 y1 y2 y3 y4 y5 y6 y7 y8 y9
   unfold mosaiclaw04_PrngDraws.j4
   repeat' first
   | (with_reducible exact ih0 _ _ _ _ _ _)
   | (with_reducible exact ih1 _ _ _ _ _ _ _)
   | (with_reducible exact ih2 _ _ _ _ _ _ _ _)
   | (with_reducible exact ih3 _ _ _ _ _ _ _ _ _ _ _)
   | (with_reducible exact ih4 _ _ _ _ _ _ _ _ _ _)
   | (with_reducible exact mosaiclaw04_awake.mono _)
   | (with_reducible exact mosaicref04_Gen_Below.mono _ _ _ _)
   | (with_reducible exact mosaicref04_Gen_Pick.mono _ _ _ _ _)
   | (with_reducible exact mosaicref04_Gen_Word.mono _ _ _)
   | (with_reducible exact mosaicref04_Same.mono _ _ _)
   | (with_reducible exact prng_Gen_Below.mono _ _ _ _ _)
   | (with_reducible exact prng_Gen_Pick.mono _ _ _ _ _ _)
   | (with_reducible exact prng_Gen_Word.mono _ _ _ _)
   | (with_reducible exact LeO.refl _)
   | (with_reducible exact LeO.none _)
   | (with_reducible refine LeO.ite ?_ ?_)
   | (with_reducible refine LeO.bind ?_ (fun _=>?_))
   | exact ih0 _ _ _ _ _ _
   | exact ih1 _ _ _ _ _ _ _
   | exact ih2 _ _ _ _ _ _ _ _
   | exact ih3 _ _ _ _ _ _ _ _ _ _ _
   | exact ih4 _ _ _ _ _ _ _ _ _ _
   | exact mosaiclaw04_awake.mono _
   | exact mosaicref04_Gen_Below.mono _ _ _ _
   | exact mosaicref04_Gen_Pick.mono _ _ _ _ _
   | exact mosaicref04_Gen_Word.mono _ _ _
   | exact mosaicref04_Same.mono _ _ _
   | exact prng_Gen_Below.mono _ _ _ _ _
   | exact prng_Gen_Pick.mono _ _ _ _ _ _
   | exact prng_Gen_Word.mono _ _ _ _
   | exact LeO.none _
   | refine LeO.ite ?_ ?_
   | refine LeO.bind ?_ (fun _=>?_)
theorem mosaiclaw04_PrngDraws.mono:∀ a0 a1 k,LeO (mosaiclaw04_PrngDraws.f k a0 a1) (mosaiclaw04_PrngDraws.f (k+1) a0 a1):=by
 intro a0 a1 k
 obtain ⟨ih0,ih1,ih2,ih3,ih4⟩:=mosaiclaw04_PrngDraws.mono_l k
 unfold mosaiclaw04_PrngDraws.f
 repeat' first
   | (with_reducible exact ih0 _ _ _ _ _ _)
   | (with_reducible exact ih1 _ _ _ _ _ _ _)
   | (with_reducible exact ih2 _ _ _ _ _ _ _ _)
   | (with_reducible exact ih3 _ _ _ _ _ _ _ _ _ _ _)
   | (with_reducible exact ih4 _ _ _ _ _ _ _ _ _ _)
   | (with_reducible exact mosaiclaw04_awake.mono _)
   | (with_reducible exact mosaicref04_Gen_Below.mono _ _ _ _)
   | (with_reducible exact mosaicref04_Gen_Pick.mono _ _ _ _ _)
   | (with_reducible exact mosaicref04_Gen_Word.mono _ _ _)
   | (with_reducible exact mosaicref04_Same.mono _ _ _)
   | (with_reducible exact prng_Gen_Below.mono _ _ _ _ _)
   | (with_reducible exact prng_Gen_Pick.mono _ _ _ _ _ _)
   | (with_reducible exact prng_Gen_Word.mono _ _ _ _)
   | (with_reducible exact LeO.refl _)
   | (with_reducible exact LeO.none _)
   | (with_reducible refine LeO.ite ?_ ?_)
   | (with_reducible refine LeO.bind ?_ (fun _=>?_))
   | exact ih0 _ _ _ _ _ _
   | exact ih1 _ _ _ _ _ _ _
   | exact ih2 _ _ _ _ _ _ _ _
   | exact ih3 _ _ _ _ _ _ _ _ _ _ _
   | exact ih4 _ _ _ _ _ _ _ _ _ _
   | exact mosaiclaw04_awake.mono _
   | exact mosaicref04_Gen_Below.mono _ _ _ _
   | exact mosaicref04_Gen_Pick.mono _ _ _ _ _
   | exact mosaicref04_Gen_Word.mono _ _ _
   | exact mosaicref04_Same.mono _ _ _
   | exact prng_Gen_Below.mono _ _ _ _ _
   | exact prng_Gen_Pick.mono _ _ _ _ _ _
   | exact prng_Gen_Word.mono _ _ _ _
   | exact LeO.none _
   | refine LeO.ite ?_ ?_
   | refine LeO.bind ?_ (fun _=>?_)
def mosaiclaw04_PrngDraws.T25:Bool×List (List Nat×List Nat):=(true,[([],[]),([],[]),([1],[1]),([],[]),([3],[3]),([0,2,4],[0,2,4]),([],[]),([6],[6]),([5,7,5],[5,7]),([8],[8])])
def mosaiclaw04_PrngDraws.B25:List Nat:=[0,0,2,0,8,31,0,64,255,511]
theorem mosaiclaw04_PrngDraws.tab25:rtab .any (opsOf Try.f17 25)=mosaiclaw04_PrngDraws.T25:=by kernel_rfl
theorem mosaiclaw04_PrngDraws.bits25:waitsOk mosaiclaw04_PrngDraws.T25.2 mosaiclaw04_PrngDraws.B25=true:=by kernel_rfl
set_option maxHeartbeats 8000000 in
set_option maxRecDepth 100000 in
theorem mosaiclaw04_PrngDraws.callsT (k:Nat) (a0:ByteArray) (A1:Option Addr) (c1:Nat) (l1:List (S90)) (w:World) (hr1:Kd.C k90 w A1 l1.length l1) (hc1:l1.length≤c1) (h:mosaiclaw04_PrngDraws.f k a0 l1=some true) :
  Calls Try.prog 17 #[.string a0,.slice A1 l1.length c1] w fun e w'=>e=.returned (.bool true)∧Below w.heap.size w w':=by
 have hu83:=Try.underlying83
 have hu90:=Try.underlying90
 have hu85:=Try.underlying85
 have hu94:=Try.underlying94
 have HR1:=Aside0.mk hr1
 have HC1:=Aside0.mk hc1
 clear hr1 hc1
 have HB:=Aside0.mk (Below.refl w.heap.size w)
 have H:((prng_New.f a0).bind fun bt539=>((mosaiclaw04_awake.f k).bind fun t543=>(if t543=true then (if (a0.size:Int) > 64 then (mosaiclaw04_PrngDraws.j0 k a0 l1 true bt539.1 bt539.2.1 bt539.2.2) else (mosaiclaw04_PrngDraws.j0 k a0 l1 false bt539.1 bt539.2.1 bt539.2.2)) else (mosaiclaw04_PrngDraws.j0 k a0 l1 true bt539.1 bt539.2.1 bt539.2.2))))=some true:=h
 clear h
 replace H:=Option.bind_eq_some_iff.mp H
 obtain ⟨⟨t539,t540,t541⟩,A30,H⟩:=H
 replace H:((mosaiclaw04_awake.f k).bind fun t543=>(if t543=true then (if (a0.size:Int) > 64 then (mosaiclaw04_PrngDraws.j0 k a0 l1 true t539 t540 t541) else (mosaiclaw04_PrngDraws.j0 k a0 l1 false t539 t540 t541)) else (mosaiclaw04_PrngDraws.j0 k a0 l1 true t539 t540 t541)))=some true:=H
 have A3:=Aside0.mk A30
 clear A30
 have HC4:=Aside0.mk H
 clear H
 go_enter Try.func17,Try.ntmps17
 go_upto_region 2 with (first|((with_reducible refine gate_callee (f:=62) rfl ?_);refine goesL_ (some 13) rfl rfl Try.func62 (by kernel_rfl) rfl #[.string a0] rfl (by (try simp only [List.map_toArray,List.map_cons,List.map_nil]);first|done|rfl|(simp only [List.length_drop,List.length_take];rfl)) ?_;(with_reducible refine (prng_New.calls a0 t539 t540 t541 w _ ?side1 A3.out).mono ?_);(case side1=>repeat (first|(with_reducible first|exact HB.out|apply below_alloc|apply pw_below_drewN|apply below_drew1)|exact HB.out));rintro e w5 ⟨g542,rfl,hi,hb,hb2⟩;refine ⟨_,rfl,?_⟩;have n0_:=Aside0.mk (hb);have n1_:=Aside0.mk (hi);clear HB;have HB:=n0_;have HI542:=n1_;clear n0_ n1_;(try clear hb);(try clear hb2);(try clear hk);(try clear hi)))
 (try simp only [Act.put,List.setIfInBounds_toArray,List.set_cons_zero,List.set_cons_succ])
 go_cut [24] (fun v24 wc=>∃ (kq:Nat) (x24_3:Bool),v24=.bool x24_3∧Aside0 (mosaiclaw04_PrngDraws.j0 kq a0 l1 x24_3 t539 t540 t541=some true)∧Aside0 (kq≤k)∧Aside0 (IsS130 w wc g542 t539 t540 t541)∧Aside0 (Below w.heap.size w wc))
 case first =>
  have H:=HC4.out
  clear HC4
  replace H:=Option.bind_eq_some_iff.mp H
  obtain ⟨t543,A60,H⟩:=H
  replace H:(if t543=true then (if (a0.size:Int) > 64 then (mosaiclaw04_PrngDraws.j0 k a0 l1 true t539 t540 t541) else (mosaiclaw04_PrngDraws.j0 k a0 l1 false t539 t540 t541)) else (mosaiclaw04_PrngDraws.j0 k a0 l1 true t539 t540 t541))=some true:=H
  have A6:=Aside0.mk A60
  clear A60
  by_cases c7:t543=true
  ·
   subst c7
   have H1:(if (a0.size:Int) > 64 then (mosaiclaw04_PrngDraws.j0 k a0 l1 true t539 t540 t541) else (mosaiclaw04_PrngDraws.j0 k a0 l1 false t539 t540 t541))=some true:=by rw [if_pos rfl] at H;exact H
   clear H
   have H:=H1
   clear H1
   by_cases c8:(a0.size:Int) > 64
   ·
    rw [if_pos c8] at H
    have c8b0:decide (64 < (a0.size:Int))=true:=decide_eq_true c8
    have c8b1:decide (64 < a0.size)=true:=decide_eq_true (by omega)
    clear c8
    (first|rw [c8b0]|(simp only [i64_w,i32_w];rw [c8b0])|skip)
    have H':=Aside0.mk H
    clear H
    go_wp2_with (first|((with_reducible refine gate_callee (f:=59) rfl ?_);refine goesL_ (some 14) rfl rfl Try.func59 (by kernel_rfl) rfl #[] rfl (by (try simp only [List.map_toArray,List.map_cons,List.map_nil]);first|done|rfl|(simp only [List.length_drop,List.length_take];rfl)) ?_;(with_reducible refine (mosaiclaw04_awake.calls k  true _ A6.out).mono ?_);rintro e w9 ⟨rfl,hb⟩;refine ⟨_,rfl,?_⟩;have n0_:=Aside0.mk (IsS130.below (by repeat (first|(with_reducible first|exact HI542.out|apply IsS130.alloc|apply IsS130.drewN|apply IsS130.drew|apply IsS130.set_0|apply IsS130.set_1|apply IsS130.set_2)|exact HI542.out)) hb);have n1_:=Aside0.mk (below_step (by repeat (first|(with_reducible first|exact HB.out|apply below_alloc|apply pw_below_drewN|apply below_drew1|refine below_set ?_ (IsS130.ge HI542.out))|exact HB.out)) hb);clear HI542;clear HB;have HI542:=n0_;have HB:=n1_;clear n0_ n1_;(try clear hb);(try clear hb2);(try clear hk);(try clear hi)))
    go_meet
    case rel=>exact ⟨_,(true),(by first|rfl|(simp;done)|(simp [*];done)),H',⟨by first|omega|exact Nat.le_refl _⟩,⟨by repeat (first|(with_reducible first|exact HI542.out|apply IsS130.alloc|apply IsS130.drewN|apply IsS130.drew|apply IsS130.set_0|apply IsS130.set_1|apply IsS130.set_2)|exact HI542.out)⟩,⟨by repeat (first|(with_reducible first|exact HB.out|apply below_alloc|apply pw_below_drewN|apply below_drew1|refine below_set ?_ (IsS130.ge HI542.out))|exact HB.out)⟩⟩
   ·
    rw [if_neg c8] at H
    have c8b0:decide (64 < (a0.size:Int))=false:=decide_eq_false c8
    have c8b1:decide (64 < a0.size)=false:=decide_eq_false (by omega)
    clear c8
    (first|rw [c8b0]|(simp only [i64_w,i32_w];rw [c8b0])|skip)
    have H':=Aside0.mk H
    clear H
    go_wp2_with (first|((with_reducible refine gate_callee (f:=59) rfl ?_);refine goesL_ (some 14) rfl rfl Try.func59 (by kernel_rfl) rfl #[] rfl (by (try simp only [List.map_toArray,List.map_cons,List.map_nil]);first|done|rfl|(simp only [List.length_drop,List.length_take];rfl)) ?_;(with_reducible refine (mosaiclaw04_awake.calls k  true _ A6.out).mono ?_);rintro e w10 ⟨rfl,hb⟩;refine ⟨_,rfl,?_⟩;have n0_:=Aside0.mk (IsS130.below (by repeat (first|(with_reducible first|exact HI542.out|apply IsS130.alloc|apply IsS130.drewN|apply IsS130.drew|apply IsS130.set_0|apply IsS130.set_1|apply IsS130.set_2)|exact HI542.out)) hb);have n1_:=Aside0.mk (below_step (by repeat (first|(with_reducible first|exact HB.out|apply below_alloc|apply pw_below_drewN|apply below_drew1|refine below_set ?_ (IsS130.ge HI542.out))|exact HB.out)) hb);clear HI542;clear HB;have HI542:=n0_;have HB:=n1_;clear n0_ n1_;(try clear hb);(try clear hb2);(try clear hk);(try clear hi)))
    go_meet
    case rel=>exact ⟨_,(false),(by first|rfl|(simp;done)|(simp [*];done)),H',⟨by first|omega|exact Nat.le_refl _⟩,⟨by repeat (first|(with_reducible first|exact HI542.out|apply IsS130.alloc|apply IsS130.drewN|apply IsS130.drew|apply IsS130.set_0|apply IsS130.set_1|apply IsS130.set_2)|exact HI542.out)⟩,⟨by repeat (first|(with_reducible first|exact HB.out|apply below_alloc|apply pw_below_drewN|apply below_drew1|refine below_set ?_ (IsS130.ge HI542.out))|exact HB.out)⟩⟩
  ·
   replace c7:=Bool.eq_false_iff.mpr c7
   subst c7
   have H1:(mosaiclaw04_PrngDraws.j0 k a0 l1 true t539 t540 t541)=some true:=by rw [if_neg (show ¬ (false=true) by decide)] at H;exact H
   clear H
   have H:=H1
   clear H1
   have H':=Aside0.mk H
   clear H
   go_wp2_with (first|((with_reducible refine gate_callee (f:=59) rfl ?_);refine goesL_ (some 14) rfl rfl Try.func59 (by kernel_rfl) rfl #[] rfl (by (try simp only [List.map_toArray,List.map_cons,List.map_nil]);first|done|rfl|(simp only [List.length_drop,List.length_take];rfl)) ?_;(with_reducible refine (mosaiclaw04_awake.calls k  false _ A6.out).mono ?_);rintro e w11 ⟨rfl,hb⟩;refine ⟨_,rfl,?_⟩;have n0_:=Aside0.mk (IsS130.below (by repeat (first|(with_reducible first|exact HI542.out|apply IsS130.alloc|apply IsS130.drewN|apply IsS130.drew|apply IsS130.set_0|apply IsS130.set_1|apply IsS130.set_2)|exact HI542.out)) hb);have n1_:=Aside0.mk (below_step (by repeat (first|(with_reducible first|exact HB.out|apply below_alloc|apply pw_below_drewN|apply below_drew1|refine below_set ?_ (IsS130.ge HI542.out))|exact HB.out)) hb);clear HI542;clear HB;have HI542:=n0_;have HB:=n1_;clear n0_ n1_;(try clear hb);(try clear hb2);(try clear hk);(try clear hi)))
   go_meet
   case rel=>exact ⟨_,(true),(by first|rfl|(simp;done)|(simp [*];done)),H',⟨by first|omega|exact Nat.le_refl _⟩,⟨by repeat (first|(with_reducible first|exact HI542.out|apply IsS130.alloc|apply IsS130.drewN|apply IsS130.drew|apply IsS130.set_0|apply IsS130.set_1|apply IsS130.set_2)|exact HI542.out)⟩,⟨by repeat (first|(with_reducible first|exact HB.out|apply below_alloc|apply pw_below_drewN|apply below_drew1|refine below_set ?_ (IsS130.ge HI542.out))|exact HB.out)⟩⟩
 case rest =>
  clear HC4
  try clear c1
  try clear p2
  try clear c5
  try clear c6
  try clear c7
  try clear c8
  try clear c8b0
  try clear c8b1
  obtain ⟨kq,x24_3,rfl,HA,HJ3,HI542,HB⟩:=hcut
  cases kq with
  | zero=>exact absurd HA.out (by simp [mosaiclaw04_PrngDraws.j0])
  | succ kj3 =>
   have H:=HA.out
   clear HA
   simp only [mosaiclaw04_PrngDraws.j0] at H
   by_cases c12:x24_3=true
   ·
    subst c12
    have H1:((mosaiclaw04_awake.f kj3).bind fun t544=>(if t544=true then (some false) else (some false)))=some true:=by rw [if_pos rfl] at H;exact H
    clear H
    have H:=H1
    clear H1
    replace H:=Option.bind_eq_some_iff.mp H
    obtain ⟨t544,A130,H⟩:=H
    replace H:(if t544=true then (some false) else (some false))=some true:=H
    have A13:=Aside0.mk A130
    clear A130
    by_cases c14:t544=true
    ·
     subst c14
     have H1:(some false)=some true:=by rw [if_pos rfl] at H;exact H
     clear H
     have H:=H1
     clear H1
     exact absurd (Option.some.inj H) (by simp)
    ·
     replace c14:=Bool.eq_false_iff.mpr c14
     subst c14
     have H1:(some false)=some true:=by rw [if_neg (show ¬ (false=true) by decide)] at H;exact H
     clear H
     have H:=H1
     clear H1
     exact absurd (Option.some.inj H) (by simp)
   ·
    replace c12:=Bool.eq_false_iff.mpr c12
    subst c12
    have H1:(mosaiclaw04_PrngDraws.l0 kj3 l1 0 t539 t540 t541 a0 0)=some true:=by rw [if_neg (show ¬ (false=true) by decide)] at H;exact H
    clear H
    have H:=H1
    clear H1
    have H':=Aside0.mk H
    clear H
    go_wp2_with (first|((with_reducible refine gate_dst (N:=6) rfl ?_);(try (refine gate_guard (by rfl) ?_;dsimp only));refine box_event ?hg (N:=6) ?hd (cs:=#[.string (⟨#[]⟩:ByteArray),.int .i64 0]) (t:=83) ?hr ?_;(case hd=>rfl);(case hg=>rfl);(case hr=>first|(go_simp;done)|(go_simp;rfl));intro gb545 hg w17 hbox hb;have n0_:=Aside0.mk (IsS130.below (by repeat (first|(with_reducible first|exact HI542.out|apply IsS130.alloc|apply IsS130.drewN|apply IsS130.drew|apply IsS130.set_0|apply IsS130.set_1|apply IsS130.set_2)|exact HI542.out)) hb);have n1_:=Aside0.mk (below_step (by repeat (first|(with_reducible first|exact HB.out|apply below_alloc|apply pw_below_drewN|apply below_drew1|refine below_set ?_ (IsS130.ge HI542.out))|exact HB.out)) hb);have n2_:=Aside0.mk (hbox);have n3_:=Aside0.mk ((by rw [hg];exact (below_size (by repeat (first|(with_reducible first|exact HB.out|apply below_alloc|apply pw_below_drewN|apply below_drew1|refine below_set ?_ (IsS130.ge HI542.out))|exact HB.out))):w.heap.size≤gb545));have n4_:=Aside0.mk ((by rw [hg];exact (below_size (by repeat (first|(with_reducible first|exact HB.out|apply below_alloc|apply pw_below_drewN|apply below_drew1|refine below_set ?_ (IsS130.ge HI542.out))|exact HB.out))):w.heap.size≤gb545));have n5_:=Aside0.mk ((by rw [hg];exact Nat.ne_of_lt (IsS130.lt (show IsS130 w _ g542 t539 t540 t541 from by repeat (first|(with_reducible first|exact HI542.out|apply IsS130.alloc|apply IsS130.drewN|apply IsS130.drew|apply IsS130.set_0|apply IsS130.set_1|apply IsS130.set_2)|exact HI542.out))):g542≠gb545));have n6_:=Aside0.mk ((by rw [hg];exact Nat.ne_of_gt (IsS130.lt (show IsS130 w _ g542 t539 t540 t541 from by repeat (first|(with_reducible first|exact HI542.out|apply IsS130.alloc|apply IsS130.drewN|apply IsS130.drew|apply IsS130.set_0|apply IsS130.set_1|apply IsS130.set_2)|exact HI542.out))):gb545≠g542));clear HI542;clear HB;have HI542:=n0_;have HB:=n1_;have BK545:=n2_;have GW545:=n3_;have GE545:=n4_;have NB542_545:=n5_;have NB545_542:=n6_;clear n0_ n1_ n2_ n3_ n4_ n5_ n6_;clear hb hbox hg;have hnb18:=NB545_542.out;have hnc18:=NB542_545.out;have hcz19_0:w17.cell? ⟨gb545,0,none⟩=some (.string (⟨#[]⟩:ByteArray)):=(blk_cell BK545.out 0).trans rfl;have hcz19_1:w17.cell? ⟨gb545,1,none⟩=some (.int .i64 0):=(blk_cell BK545.out 1).trans rfl;have hfz19_0:=blk_frozen BK545.out 0;have hfz19_1:=blk_frozen BK545.out 1))
    go_loopg [7] kj3 (fun kq v7 w'=>∃ (x7_2:Int) (x543000_2:ByteArray) (x543001_2:Int) (x543002_2:ByteArray) (x546000_2:ByteArray) (x546001_2:Int),v7=.int .i64 x7_2∧Aside0 (mosaiclaw04_PrngDraws.l0 kq l1 x7_2 x543000_2 x543001_2 x543002_2 x546000_2 x546001_2=some true)∧Aside0 (kq≤kj3)∧Aside0 (w'.heap[gb545]?=some (.cells #[.string x546000_2,.int .i64 x546001_2] 83 (0,0)))∧Aside0 (IsS130 w w' g542 x543000_2 x543001_2 x543002_2)∧Aside0 (Below w.heap.size w w'))
    case atStart=>exact ⟨(0),(t539),(t540),(t541),(a0),(0),(by first|rfl|(simp;done)|(simp [*];done)),H',⟨Nat.le_refl _⟩,⟨by (with_reducible repeat (first|refine blk_drewN ?_ _|refine blk_drew ?_|refine blk_alloc ?_ _));refine blk_put (cs:=#[.string a0,.int .i64 0]) ?_ 1 _ rfl;(with_reducible repeat (first|refine blk_drewN ?_ _|refine blk_drew ?_|refine blk_alloc ?_ _));refine blk_put (cs:=#[.string (⟨#[]⟩:ByteArray),.int .i64 0]) ?_ 0 _ rfl;(with_reducible repeat (first|refine blk_drewN ?_ _|refine blk_drew ?_|refine blk_alloc ?_ _));exact BK545.out⟩,⟨by repeat (first|(with_reducible first|exact HI542.out|apply IsS130.alloc|apply IsS130.drewN|apply IsS130.drew|apply IsS130.set_0|apply IsS130.set_1|apply IsS130.set_2|refine IsS130.far ?_ NB542_545.out _)|exact HI542.out)⟩,⟨by repeat (first|(with_reducible first|exact HB.out|apply below_alloc|apply pw_below_drewN|apply below_drew1|refine below_set ?_ (IsS130.ge HI542.out)|refine below_set ?_ GE545.out)|exact HB.out)⟩⟩
    case round =>
     clear H'
     try clear c1
     try clear p2
     try clear c5
     try clear c6
     try clear c7
     try clear c8
     try clear c8b0
     try clear c8b1
     try clear c12
     try clear c14
     try clear c17
     try clear c18
     try clear hcz19_0
     try clear hcz19_1
     try clear hfz19_0
     try clear hfz19_1
     try clear p2
     obtain ⟨x7_2,x543000_2,x543001_2,x543002_2,x546000_2,x546001_2,rfl,HA,HK2,BK545,HI542,HB⟩:=hrel
     cases gk with
     | zero=>exact absurd HA.out (by simp [mosaiclaw04_PrngDraws.l0])
     | succ k2 =>
      have H:=HA.out
      clear HA
      simp only [mosaiclaw04_PrngDraws.l0] at H
      have HC20:=Aside0.mk H
      clear H
      go_upto_region 6 with (fail)
      go_cut [39] (fun v39 wc=>∃ (kq:Nat) (x39_19:Bool),v39=.bool x39_19∧Aside0 (mosaiclaw04_PrngDraws.j2 kq l1 x7_2 x39_19 x543000_2 x543001_2 x543002_2 x546000_2 x546001_2=some true)∧Aside0 (kq≤k2)∧Aside0 (wc.heap[gb545]?=some (.cells #[.string x546000_2,.int .i64 x546001_2] 83 (0,0)))∧Aside0 (IsS130 w wc g542 x543000_2 x543001_2 x543002_2)∧Aside0 (Below w.heap.size w wc))
      case first =>
       have H:=HC20.out
       clear HC20
       by_cases c21:x7_2 < (l1.length:Int)
       ·
        rw [if_pos c21] at H
        have c21b0:decide (x7_2 < (l1.length:Int))=true:=decide_eq_true c21
        clear c21
        (first|rw [c21b0]|(simp only [i64_w,i32_w];rw [c21b0])|skip)
        have H':=Aside0.mk H
        clear H
        go_wp2
        go_meet
        case rel=>exact ⟨_,(decide (x7_2 < 20)),(by first|rfl|(simp;done)|(simp [*];done)),H',⟨by have:=HJ3.out;have:=HK2.out;first|omega|exact Nat.le_refl _⟩,⟨by (with_reducible repeat (first|refine blk_drewN ?_ _|refine blk_drew ?_|refine blk_alloc ?_ _));exact BK545.out⟩,⟨by repeat (first|(with_reducible first|exact HI542.out|apply IsS130.alloc|apply IsS130.drewN|apply IsS130.drew|apply IsS130.set_0|apply IsS130.set_1|apply IsS130.set_2|refine IsS130.far ?_ NB542_545.out _)|exact HI542.out)⟩,⟨by repeat (first|(with_reducible first|exact HB.out|apply below_alloc|apply pw_below_drewN|apply below_drew1|refine below_set ?_ (IsS130.ge HI542.out)|refine below_set ?_ GE545.out)|exact HB.out)⟩⟩
       ·
        rw [if_neg c21] at H
        have c21b0:decide (x7_2 < (l1.length:Int))=false:=decide_eq_false c21
        clear c21
        (first|rw [c21b0]|(simp only [i64_w,i32_w];rw [c21b0])|skip)
        have H':=Aside0.mk H
        clear H
        go_wp2
        go_meet
        case rel=>exact ⟨_,(false),(by first|rfl|(simp;done)|(simp [*];done)),H',⟨by have:=HJ3.out;have:=HK2.out;first|omega|exact Nat.le_refl _⟩,⟨by (with_reducible repeat (first|refine blk_drewN ?_ _|refine blk_drew ?_|refine blk_alloc ?_ _));exact BK545.out⟩,⟨by repeat (first|(with_reducible first|exact HI542.out|apply IsS130.alloc|apply IsS130.drewN|apply IsS130.drew|apply IsS130.set_0|apply IsS130.set_1|apply IsS130.set_2|refine IsS130.far ?_ NB542_545.out _)|exact HI542.out)⟩,⟨by repeat (first|(with_reducible first|exact HB.out|apply below_alloc|apply pw_below_drewN|apply below_drew1|refine below_set ?_ (IsS130.ge HI542.out)|refine below_set ?_ GE545.out)|exact HB.out)⟩⟩
      case rest =>
       clear HC20
       try clear c1
       try clear c2
       try clear p2
       try clear c5
       try clear c6
       try clear c7
       try clear c8
       try clear c8b0
       try clear c8b1
       try clear c12
       try clear c14
       try clear c17
       try clear c18
       try clear c21
       try clear c21b0
       try clear hcz19_0
       try clear hcz19_1
       try clear hfz19_0
       try clear hfz19_1
       try clear p2
       obtain ⟨kq,x39_19,rfl,HA,HJ19,BK545,HI542,HB⟩:=hcut
       cases kq with
       | zero=>exact absurd HA.out (by simp [mosaiclaw04_PrngDraws.j2])
       | succ kj19 =>
        have H:=HA.out
        clear HA
        simp only [mosaiclaw04_PrngDraws.j2] at H
        by_cases c22:x39_19=true
        ·
         subst c22
         have H1:(if 0≤x7_2 then (if x7_2 < (l1.length:Int) then (if ((rd_T90 l1 x7_2).f0)=0 then ((mosaicref04_Gen_Word.f kj19 x546000_2 x546001_2).bind fun bt548=>((prng_Gen_Word.f kj19 x543000_2 x543001_2 x543002_2).bind fun bt552=>(if (wrap64 (bt552.1))=bt548.2.2 then ((prng_Gen_Used.f bt552.2.1 bt552.2.2.1 bt552.2.2.2).bind fun bt556=>(if bt556.1=bt548.2.1 then (mosaiclaw04_PrngDraws.l0 kj19 l1 (wrap64 (x7_2+1)) bt556.2.1 bt556.2.2.1 bt556.2.2.2 bt548.1 bt548.2.1) else (some false))) else (some false)))) else (if ((rd_T90 l1 x7_2).f0)=1 then ((mosaicref04_Gen_Below.f kj19 x546000_2 x546001_2 ((rd_T90 l1 x7_2).f1)).bind fun bt560=>((prng_Gen_Below.f kj19 x543000_2 x543001_2 x543002_2 ((rd_T90 l1 x7_2).f1)).bind fun bt564=>(if bt564.1=bt560.2.2 then ((prng_Gen_Used.f bt564.2.1 bt564.2.2.1 bt564.2.2.2).bind fun bt568=>(if bt568.1=bt560.2.1 then (mosaiclaw04_PrngDraws.l0 kj19 l1 (wrap64 (x7_2+1)) bt568.2.1 bt568.2.2.1 bt568.2.2.2 bt560.1 bt560.2.1) else (some false))) else (some false)))) else (if ((rd_T90 l1 x7_2).f0)=2 then (if ((rd_T90 l1 x7_2).f1) > 200 then (mosaiclaw04_PrngDraws.j3 kj19 l1 x7_2 (decide (((rd_T90 l1 x7_2).f1)≤4096)) x543000_2 x543001_2 x543002_2 x546000_2 x546001_2 ((rd_T90 l1 x7_2).f0) ((rd_T90 l1 x7_2).f1) ((rd_T90 l1 x7_2).f2)) else (mosaiclaw04_PrngDraws.j3 kj19 l1 x7_2 false x543000_2 x543001_2 x543002_2 x546000_2 x546001_2 ((rd_T90 l1 x7_2).f0) ((rd_T90 l1 x7_2).f1) ((rd_T90 l1 x7_2).f2))) else ((prng_Gen_Used.f x543000_2 x543001_2 x543002_2).bind fun bt589=>(if bt589.1=x546001_2 then (mosaiclaw04_PrngDraws.l0 kj19 l1 (wrap64 (x7_2+1)) bt589.2.1 bt589.2.2.1 bt589.2.2.2 x546000_2 x546001_2) else (some false)))))) else (none)) else (none))=some true:=by rw [if_pos rfl] at H;exact H
         clear H
         have H:=H1
         clear H1
         by_cases c23:0≤x7_2
         ·
          rw [if_pos c23] at H
          have c23b0:decide (0≤x7_2)=true:=decide_eq_true c23
          clear c23
          by_cases c24:x7_2 < (l1.length:Int)
          ·
           rw [if_pos c24] at H
           have c24b0:decide (x7_2 < (l1.length:Int))=true:=decide_eq_true c24
           clear c24
           by_cases c25:((rd_T90 l1 x7_2).f0)=0
           ·
            rw [if_pos c25] at H
            have c25b0:(((rd_T90 l1 x7_2).f0) == 0)=true:=beq_iff_eq.mpr c25
            have c25b1:(((rd_T90 l1 x7_2).f0) != 0)=false:=bne_eq_false_iff_eq.mpr c25
            clear c25
            replace H:=Option.bind_eq_some_iff.mp H
            obtain ⟨⟨t548,t549,t550⟩,A260,H⟩:=H
            replace H:((prng_Gen_Word.f kj19 x543000_2 x543001_2 x543002_2).bind fun bt552=>(if (wrap64 (bt552.1))=t550 then ((prng_Gen_Used.f bt552.2.1 bt552.2.2.1 bt552.2.2.2).bind fun bt556=>(if bt556.1=t549 then (mosaiclaw04_PrngDraws.l0 kj19 l1 (wrap64 (x7_2+1)) bt556.2.1 bt556.2.2.1 bt556.2.2.2 t548 t549) else (some false))) else (some false)))=some true:=H
            have A26:=Aside0.mk A260
            clear A260
            replace H:=Option.bind_eq_some_iff.mp H
            obtain ⟨⟨t552,t553,t554,t555⟩,A270,H⟩:=H
            replace H:(if (wrap64 (t552))=t550 then ((prng_Gen_Used.f t553 t554 t555).bind fun bt556=>(if bt556.1=t549 then (mosaiclaw04_PrngDraws.l0 kj19 l1 (wrap64 (x7_2+1)) bt556.2.1 bt556.2.2.1 bt556.2.2.2 t548 t549) else (some false))) else (some false))=some true:=H
            have A27:=Aside0.mk A270
            clear A270
            by_cases c28:(wrap64 (t552))=t550
            ·
             rw [if_pos c28] at H
             have c28b0:((wrap64 (t552)) == t550)=true:=beq_iff_eq.mpr c28
             have c28b1:((wrap64 (t552)) != t550)=false:=bne_eq_false_iff_eq.mpr c28
             clear c28
             replace H:=Option.bind_eq_some_iff.mp H
             obtain ⟨⟨t556,t557,t558,t559⟩,A290,H⟩:=H
             replace H:(if t556=t549 then (mosaiclaw04_PrngDraws.l0 kj19 l1 (wrap64 (x7_2+1)) t557 t558 t559 t548 t549) else (some false))=some true:=H
             have A29:=Aside0.mk A290
             clear A290
             by_cases c30:t556=t549
             ·
              rw [if_pos c30] at H
              have c30b0:(t556 == t549)=true:=beq_iff_eq.mpr c30
              have c30b1:(t556 != t549)=false:=bne_eq_false_iff_eq.mpr c30
              clear c30
              have H':=Aside0.mk H
              clear H
              have p546:0≤(x7_2:Int):=of_decide_eq_true (by first|(with_reducible assumption)|assumption)
              have q546:x7_2 < (l1.length:Int):=of_decide_eq_true (by first|(with_reducible assumption)|assumption)
              obtain ⟨ad546,e546,hx546_0,hx546_1,hx546_2⟩:=at_T90 HR1.out x7_2 p546 q546
              cases e546
              replace hx546_0:=(HB.out.cell (World.block_lt_of_cell? w _ hx546_0)).trans hx546_0
              replace hx546_1:=(HB.out.cell (World.block_lt_of_cell? w _ hx546_1)).trans hx546_1
              replace hx546_2:=(HB.out.cell (World.block_lt_of_cell? w _ hx546_2)).trans hx546_2
              replace p546:=eq_true p546
              replace q546:=eq_true q546
              try go_wp2_with (first|((with_reducible refine gate_dst (N:=8) rfl ?_);(try (refine gate_guard (by rfl) ?_;dsimp only));refine box_event ?hg (N:=8) ?hd (cs:=#[.int .i64 0,.int .i64 0,.int .i64 0]) (t:=90) ?hr ?_;(case hd=>rfl);(case hg=>rfl);(case hr=>first|(go_simp;done)|(go_simp;rfl));intro gb547 hg w31 hbox hb;have n0_:=Aside0.mk (blk_below (g:=gb545) (o:=.cells #[.string x546000_2,.int .i64 x546001_2] 83 (0,0)) (by (with_reducible repeat (first|refine blk_drewN ?_ _|refine blk_drew ?_|refine blk_alloc ?_ _));exact BK545.out) hb);have n1_:=Aside0.mk (IsS130.below (by repeat (first|(with_reducible first|exact HI542.out|apply IsS130.alloc|apply IsS130.drewN|apply IsS130.drew|apply IsS130.set_0|apply IsS130.set_1|apply IsS130.set_2|refine IsS130.far ?_ NB542_545.out _)|exact HI542.out)) hb);have n2_:=Aside0.mk (below_step (by repeat (first|(with_reducible first|exact HB.out|apply below_alloc|apply pw_below_drewN|apply below_drew1|refine below_set ?_ (IsS130.ge HI542.out)|refine below_set ?_ GE545.out)|exact HB.out)) hb);have n3_:=Aside0.mk (hbox);have n4_:=Aside0.mk ((by rw [hg];exact (below_size (by repeat (first|(with_reducible first|exact HB.out|apply below_alloc|apply pw_below_drewN|apply below_drew1|refine below_set ?_ (IsS130.ge HI542.out)|refine below_set ?_ GE545.out)|exact HB.out))):w.heap.size≤gb547));have n5_:=Aside0.mk ((by rw [hg];exact (below_size (by repeat (first|(with_reducible first|exact HB.out|apply below_alloc|apply pw_below_drewN|apply below_drew1|refine below_set ?_ (IsS130.ge HI542.out)|refine below_set ?_ GE545.out)|exact HB.out))):w.heap.size≤gb547));have n6_:=Aside0.mk ((by rw [hg];exact Nat.ne_of_lt (blk_lt (g:=gb545) (o:=.cells #[.string x546000_2,.int .i64 x546001_2] 83 (0,0)) (by (with_reducible repeat (first|refine blk_drewN ?_ _|refine blk_drew ?_|refine blk_alloc ?_ _));exact BK545.out)):gb545≠gb547));have n7_:=Aside0.mk ((by rw [hg];exact Nat.ne_of_gt (blk_lt (g:=gb545) (o:=.cells #[.string x546000_2,.int .i64 x546001_2] 83 (0,0)) (by (with_reducible repeat (first|refine blk_drewN ?_ _|refine blk_drew ?_|refine blk_alloc ?_ _));exact BK545.out)):gb547≠gb545));have n8_:=Aside0.mk ((by rw [hg];exact Nat.ne_of_lt (IsS130.lt (show IsS130 w _ g542 x543000_2 x543001_2 x543002_2 from by repeat (first|(with_reducible first|exact HI542.out|apply IsS130.alloc|apply IsS130.drewN|apply IsS130.drew|apply IsS130.set_0|apply IsS130.set_1|apply IsS130.set_2|refine IsS130.far ?_ NB542_545.out _)|exact HI542.out))):g542≠gb547));have n9_:=Aside0.mk ((by rw [hg];exact Nat.ne_of_gt (IsS130.lt (show IsS130 w _ g542 x543000_2 x543001_2 x543002_2 from by repeat (first|(with_reducible first|exact HI542.out|apply IsS130.alloc|apply IsS130.drewN|apply IsS130.drew|apply IsS130.set_0|apply IsS130.set_1|apply IsS130.set_2|refine IsS130.far ?_ NB542_545.out _)|exact HI542.out))):gb547≠g542));clear BK545;clear HI542;clear HB;have BK545:=n0_;have HI542:=n1_;have HB:=n2_;have BK547:=n3_;have GW547:=n4_;have GE547:=n5_;have NB545_547:=n6_;have NB547_545:=n7_;have NB542_547:=n8_;have NB547_542:=n9_;clear n0_ n1_ n2_ n3_ n4_ n5_ n6_ n7_ n8_ n9_;clear hb hbox hg;have hnb32:=NB547_545.out;have hnc32:=NB545_547.out;have hnb33:=NB547_542.out;have hnc33:=NB542_547.out;have hcz34_0:w31.cell? ⟨gb547,0,none⟩=some (.int .i64 0):=(blk_cell BK547.out 0).trans rfl;have hcz34_1:w31.cell? ⟨gb547,1,none⟩=some (.int .i64 0):=(blk_cell BK547.out 1).trans rfl;have hcz34_2:w31.cell? ⟨gb547,2,none⟩=some (.int .i64 0):=(blk_cell BK547.out 2).trans rfl;have hfz34_0:=blk_frozen BK547.out 0;have hfz34_1:=blk_frozen BK547.out 1;have hfz34_2:=blk_frozen BK547.out 2;have hnb35:=NB545_542.out;have hnc35:=NB542_545.out;have hcz36_0:w31.cell? ⟨gb545,0,none⟩=some (.string x546000_2):=(blk_cell BK545.out 0).trans rfl;have hcz36_1:w31.cell? ⟨gb545,1,none⟩=some (.int .i64 x546001_2):=(blk_cell BK545.out 1).trans rfl;have hfz36_0:=blk_frozen BK545.out 0;have hfz36_1:=blk_frozen BK545.out 1)|((with_reducible refine gate_callee (f:=66) rfl ?_);refine goesL_ (some 51) rfl rfl Try.func66 (by kernel_rfl) rfl #[.agg #[.string x546000_2,.int .i64 x546001_2]] rfl (by (try simp only [List.map_toArray,List.map_cons,List.map_nil]);first|done|rfl|(simp only [List.length_drop,List.length_take];rfl)) ?_;(with_reducible refine (mosaicref04_Gen_Word.calls kj19 x546000_2 x546001_2 t548 t549 t550 _ A26.out).mono ?_);rintro e w37 ⟨rfl,hb⟩;refine ⟨_,rfl,?_⟩;have n0_:=Aside0.mk (blk_below (g:=gb545) (o:=.cells #[.string x546000_2,.int .i64 x546001_2] 83 (0,0)) (by (with_reducible repeat (first|refine blk_drewN ?_ _|refine blk_drew ?_|refine blk_alloc ?_ _));refine blk_far ?_ NB545_547.out _;(with_reducible repeat (first|refine blk_drewN ?_ _|refine blk_drew ?_|refine blk_alloc ?_ _));refine blk_far ?_ NB545_547.out _;(with_reducible repeat (first|refine blk_drewN ?_ _|refine blk_drew ?_|refine blk_alloc ?_ _));refine blk_far ?_ NB545_547.out _;(with_reducible repeat (first|refine blk_drewN ?_ _|refine blk_drew ?_|refine blk_alloc ?_ _));exact BK545.out) hb);have n1_:=Aside0.mk (IsS130.below (show IsS130 w (((w31.setCell ⟨gb547,0,none⟩ (.int .i64 ((rd_T90 l1 x7_2).f0))).setCell ⟨gb547,1,none⟩ (.int .i64 ((rd_T90 l1 x7_2).f1))).setCell ⟨gb547,2,none⟩ (.int .i64 ((rd_T90 l1 x7_2).f2))) g542 x543000_2 x543001_2 x543002_2 from by repeat (first|(with_reducible first|exact HI542.out|apply IsS130.alloc|apply IsS130.drewN|apply IsS130.drew|apply IsS130.set_0|apply IsS130.set_1|apply IsS130.set_2|refine IsS130.far ?_ NB542_545.out _|refine IsS130.far ?_ NB542_547.out _)|exact HI542.out)) hb);have n2_:=Aside0.mk (blk_below (g:=gb547) (o:=.cells #[.int .i64 ((rd_T90 l1 x7_2).f0),.int .i64 ((rd_T90 l1 x7_2).f1),.int .i64 ((rd_T90 l1 x7_2).f2)] 90 (0,0)) (by (with_reducible repeat (first|refine blk_drewN ?_ _|refine blk_drew ?_|refine blk_alloc ?_ _));refine blk_put (cs:=#[.int .i64 ((rd_T90 l1 x7_2).f0),.int .i64 ((rd_T90 l1 x7_2).f1),.int .i64 0]) ?_ 2 _ rfl;(with_reducible repeat (first|refine blk_drewN ?_ _|refine blk_drew ?_|refine blk_alloc ?_ _));refine blk_put (cs:=#[.int .i64 ((rd_T90 l1 x7_2).f0),.int .i64 0,.int .i64 0]) ?_ 1 _ rfl;(with_reducible repeat (first|refine blk_drewN ?_ _|refine blk_drew ?_|refine blk_alloc ?_ _));refine blk_put (cs:=#[.int .i64 0,.int .i64 0,.int .i64 0]) ?_ 0 _ rfl;(with_reducible repeat (first|refine blk_drewN ?_ _|refine blk_drew ?_|refine blk_alloc ?_ _));exact BK547.out) hb);have n3_:=Aside0.mk (below_step (by repeat (first|(with_reducible first|exact HB.out|apply below_alloc|apply pw_below_drewN|apply below_drew1|refine below_set ?_ (IsS130.ge HI542.out)|refine below_set ?_ GE545.out|refine below_set ?_ GE547.out)|exact HB.out)) hb);clear BK545;clear HI542;clear BK547;clear HB;have BK545:=n0_;have HI542:=n1_;have BK547:=n2_;have HB:=n3_;clear n0_ n1_ n2_ n3_;(try clear hb);(try clear hb2);(try clear hk);(try clear hi))|((with_reducible refine gate_dst (N:=9) rfl ?_);(try (refine gate_guard (by rfl) ?_;dsimp only));refine box_event ?hg (N:=9) ?hd (cs:=#[.string (⟨#[]⟩:ByteArray),.int .i64 0,.int .i64 0]) (t:=85) ?hr ?_;(case hd=>rfl);(case hg=>rfl);(case hr=>first|(go_simp;done)|(go_simp;rfl));intro gb551 hg w38 hbox hb;have n0_:=Aside0.mk (blk_below (g:=gb545) (o:=.cells #[.string x546000_2,.int .i64 x546001_2] 83 (0,0)) (by (with_reducible repeat (first|refine blk_drewN ?_ _|refine blk_drew ?_|refine blk_alloc ?_ _));exact BK545.out) hb);have n1_:=Aside0.mk (IsS130.below (by repeat (first|(with_reducible first|exact HI542.out|apply IsS130.alloc|apply IsS130.drewN|apply IsS130.drew|apply IsS130.set_0|apply IsS130.set_1|apply IsS130.set_2|refine IsS130.far ?_ NB542_545.out _|refine IsS130.far ?_ NB542_547.out _)|exact HI542.out)) hb);have n2_:=Aside0.mk (blk_below (g:=gb547) (o:=.cells #[.int .i64 ((rd_T90 l1 x7_2).f0),.int .i64 ((rd_T90 l1 x7_2).f1),.int .i64 ((rd_T90 l1 x7_2).f2)] 90 (0,0)) (by (with_reducible repeat (first|refine blk_drewN ?_ _|refine blk_drew ?_|refine blk_alloc ?_ _));exact BK547.out) hb);have n3_:=Aside0.mk (below_step (by repeat (first|(with_reducible first|exact HB.out|apply below_alloc|apply pw_below_drewN|apply below_drew1|refine below_set ?_ (IsS130.ge HI542.out)|refine below_set ?_ GE545.out|refine below_set ?_ GE547.out)|exact HB.out)) hb);have n4_:=Aside0.mk (hbox);have n5_:=Aside0.mk ((by rw [hg];exact (below_size (by repeat (first|(with_reducible first|exact HB.out|apply below_alloc|apply pw_below_drewN|apply below_drew1|refine below_set ?_ (IsS130.ge HI542.out)|refine below_set ?_ GE545.out|refine below_set ?_ GE547.out)|exact HB.out))):w.heap.size≤gb551));have n6_:=Aside0.mk ((by rw [hg];exact (below_size (by repeat (first|(with_reducible first|exact HB.out|apply below_alloc|apply pw_below_drewN|apply below_drew1|refine below_set ?_ (IsS130.ge HI542.out)|refine below_set ?_ GE545.out|refine below_set ?_ GE547.out)|exact HB.out))):w.heap.size≤gb551));have n7_:=Aside0.mk ((by rw [hg];exact Nat.ne_of_lt (blk_lt (g:=gb545) (o:=.cells #[.string x546000_2,.int .i64 x546001_2] 83 (0,0)) (by (with_reducible repeat (first|refine blk_drewN ?_ _|refine blk_drew ?_|refine blk_alloc ?_ _));exact BK545.out)):gb545≠gb551));have n8_:=Aside0.mk ((by rw [hg];exact Nat.ne_of_gt (blk_lt (g:=gb545) (o:=.cells #[.string x546000_2,.int .i64 x546001_2] 83 (0,0)) (by (with_reducible repeat (first|refine blk_drewN ?_ _|refine blk_drew ?_|refine blk_alloc ?_ _));exact BK545.out)):gb551≠gb545));have n9_:=Aside0.mk ((by rw [hg];exact Nat.ne_of_lt (blk_lt (g:=gb547) (o:=.cells #[.int .i64 ((rd_T90 l1 x7_2).f0),.int .i64 ((rd_T90 l1 x7_2).f1),.int .i64 ((rd_T90 l1 x7_2).f2)] 90 (0,0)) (by (with_reducible repeat (first|refine blk_drewN ?_ _|refine blk_drew ?_|refine blk_alloc ?_ _));exact BK547.out)):gb547≠gb551));have n10_:=Aside0.mk ((by rw [hg];exact Nat.ne_of_gt (blk_lt (g:=gb547) (o:=.cells #[.int .i64 ((rd_T90 l1 x7_2).f0),.int .i64 ((rd_T90 l1 x7_2).f1),.int .i64 ((rd_T90 l1 x7_2).f2)] 90 (0,0)) (by (with_reducible repeat (first|refine blk_drewN ?_ _|refine blk_drew ?_|refine blk_alloc ?_ _));exact BK547.out)):gb551≠gb547));have n11_:=Aside0.mk ((by rw [hg];exact Nat.ne_of_lt (IsS130.lt (show IsS130 w _ g542 x543000_2 x543001_2 x543002_2 from by repeat (first|(with_reducible first|exact HI542.out|apply IsS130.alloc|apply IsS130.drewN|apply IsS130.drew|apply IsS130.set_0|apply IsS130.set_1|apply IsS130.set_2|refine IsS130.far ?_ NB542_545.out _|refine IsS130.far ?_ NB542_547.out _)|exact HI542.out))):g542≠gb551));have n12_:=Aside0.mk ((by rw [hg];exact Nat.ne_of_gt (IsS130.lt (show IsS130 w _ g542 x543000_2 x543001_2 x543002_2 from by repeat (first|(with_reducible first|exact HI542.out|apply IsS130.alloc|apply IsS130.drewN|apply IsS130.drew|apply IsS130.set_0|apply IsS130.set_1|apply IsS130.set_2|refine IsS130.far ?_ NB542_545.out _|refine IsS130.far ?_ NB542_547.out _)|exact HI542.out))):gb551≠g542));clear BK545;clear HI542;clear BK547;clear HB;have BK545:=n0_;have HI542:=n1_;have BK547:=n2_;have HB:=n3_;have BK551:=n4_;have GW551:=n5_;have GE551:=n6_;have NB545_551:=n7_;have NB551_545:=n8_;have NB547_551:=n9_;have NB551_547:=n10_;have NB542_551:=n11_;have NB551_542:=n12_;clear n0_ n1_ n2_ n3_ n4_ n5_ n6_ n7_ n8_ n9_ n10_ n11_ n12_;clear hb hbox hg;have hnb39:=NB551_545.out;have hnc39:=NB545_551.out;have hnb40:=NB551_547.out;have hnc40:=NB547_551.out;have hnb41:=NB551_542.out;have hnc41:=NB542_551.out;have hcz42_0:w38.cell? ⟨gb551,0,none⟩=some (.string (⟨#[]⟩:ByteArray)):=(blk_cell BK551.out 0).trans rfl;have hcz42_1:w38.cell? ⟨gb551,1,none⟩=some (.int .i64 0):=(blk_cell BK551.out 1).trans rfl;have hcz42_2:w38.cell? ⟨gb551,2,none⟩=some (.int .i64 0):=(blk_cell BK551.out 2).trans rfl;have hfz42_0:=blk_frozen BK551.out 0;have hfz42_1:=blk_frozen BK551.out 1;have hfz42_2:=blk_frozen BK551.out 2;have hcz43_0:w38.cell? ⟨gb545,0,none⟩=some (.string x546000_2):=(blk_cell BK545.out 0).trans rfl;have hcz43_1:w38.cell? ⟨gb545,1,none⟩=some (.int .i64 x546001_2):=(blk_cell BK545.out 1).trans rfl;have hfz43_0:=blk_frozen BK545.out 0;have hfz43_1:=blk_frozen BK545.out 1))
              have n0_:Aside0 ((((((w38.setCell ⟨gb551,0,none⟩ (.string t548)).setCell ⟨gb551,1,none⟩ (.int .i64 t549)).setCell ⟨gb551,2,none⟩ (.int .i64 t550)).setCell ⟨gb545,0,none⟩ (.string t548)).setCell ⟨gb545,1,none⟩ (.int .i64 t549)).heap[gb545]?=some (.cells #[.string t548,.int .i64 t549] 83 (0,0))):=⟨by (with_reducible repeat (first|refine blk_drewN ?_ _|refine blk_drew ?_|refine blk_alloc ?_ _));refine blk_put (cs:=#[.string t548,.int .i64 x546001_2]) ?_ 1 _ rfl;(with_reducible repeat (first|refine blk_drewN ?_ _|refine blk_drew ?_|refine blk_alloc ?_ _));refine blk_put (cs:=#[.string x546000_2,.int .i64 x546001_2]) ?_ 0 _ rfl;(with_reducible repeat (first|refine blk_drewN ?_ _|refine blk_drew ?_|refine blk_alloc ?_ _));refine blk_far ?_ NB545_551.out _;(with_reducible repeat (first|refine blk_drewN ?_ _|refine blk_drew ?_|refine blk_alloc ?_ _));refine blk_far ?_ NB545_551.out _;(with_reducible repeat (first|refine blk_drewN ?_ _|refine blk_drew ?_|refine blk_alloc ?_ _));refine blk_far ?_ NB545_551.out _;(with_reducible repeat (first|refine blk_drewN ?_ _|refine blk_drew ?_|refine blk_alloc ?_ _));exact BK545.out⟩
              have n1_:Aside0 ((((((w38.setCell ⟨gb551,0,none⟩ (.string t548)).setCell ⟨gb551,1,none⟩ (.int .i64 t549)).setCell ⟨gb551,2,none⟩ (.int .i64 t550)).setCell ⟨gb545,0,none⟩ (.string t548)).setCell ⟨gb545,1,none⟩ (.int .i64 t549)).heap[gb547]?=some (.cells #[.int .i64 ((rd_T90 l1 x7_2).f0),.int .i64 ((rd_T90 l1 x7_2).f1),.int .i64 ((rd_T90 l1 x7_2).f2)] 90 (0,0))):=⟨by (with_reducible repeat (first|refine blk_drewN ?_ _|refine blk_drew ?_|refine blk_alloc ?_ _));refine blk_far ?_ NB547_545.out _;(with_reducible repeat (first|refine blk_drewN ?_ _|refine blk_drew ?_|refine blk_alloc ?_ _));refine blk_far ?_ NB547_545.out _;(with_reducible repeat (first|refine blk_drewN ?_ _|refine blk_drew ?_|refine blk_alloc ?_ _));refine blk_far ?_ NB547_551.out _;(with_reducible repeat (first|refine blk_drewN ?_ _|refine blk_drew ?_|refine blk_alloc ?_ _));refine blk_far ?_ NB547_551.out _;(with_reducible repeat (first|refine blk_drewN ?_ _|refine blk_drew ?_|refine blk_alloc ?_ _));refine blk_far ?_ NB547_551.out _;(with_reducible repeat (first|refine blk_drewN ?_ _|refine blk_drew ?_|refine blk_alloc ?_ _));exact BK547.out⟩
              have n2_:Aside0 ((((((w38.setCell ⟨gb551,0,none⟩ (.string t548)).setCell ⟨gb551,1,none⟩ (.int .i64 t549)).setCell ⟨gb551,2,none⟩ (.int .i64 t550)).setCell ⟨gb545,0,none⟩ (.string t548)).setCell ⟨gb545,1,none⟩ (.int .i64 t549)).heap[gb551]?=some (.cells #[.string t548,.int .i64 t549,.int .i64 t550] 85 (0,0))):=⟨by (with_reducible repeat (first|refine blk_drewN ?_ _|refine blk_drew ?_|refine blk_alloc ?_ _));refine blk_far ?_ NB551_545.out _;(with_reducible repeat (first|refine blk_drewN ?_ _|refine blk_drew ?_|refine blk_alloc ?_ _));refine blk_far ?_ NB551_545.out _;(with_reducible repeat (first|refine blk_drewN ?_ _|refine blk_drew ?_|refine blk_alloc ?_ _));refine blk_put (cs:=#[.string t548,.int .i64 t549,.int .i64 0]) ?_ 2 _ rfl;(with_reducible repeat (first|refine blk_drewN ?_ _|refine blk_drew ?_|refine blk_alloc ?_ _));refine blk_put (cs:=#[.string t548,.int .i64 0,.int .i64 0]) ?_ 1 _ rfl;(with_reducible repeat (first|refine blk_drewN ?_ _|refine blk_drew ?_|refine blk_alloc ?_ _));refine blk_put (cs:=#[.string (⟨#[]⟩:ByteArray),.int .i64 0,.int .i64 0]) ?_ 0 _ rfl;(with_reducible repeat (first|refine blk_drewN ?_ _|refine blk_drew ?_|refine blk_alloc ?_ _));exact BK551.out⟩
              have n3_:Aside0 (IsS130 w (((((w38.setCell ⟨gb551,0,none⟩ (.string t548)).setCell ⟨gb551,1,none⟩ (.int .i64 t549)).setCell ⟨gb551,2,none⟩ (.int .i64 t550)).setCell ⟨gb545,0,none⟩ (.string t548)).setCell ⟨gb545,1,none⟩ (.int .i64 t549)) g542 x543000_2 x543001_2 x543002_2):=⟨by repeat (first|(with_reducible first|exact HI542.out|apply IsS130.alloc|apply IsS130.drewN|apply IsS130.drew|apply IsS130.set_0|apply IsS130.set_1|apply IsS130.set_2|refine IsS130.far ?_ NB542_545.out _|refine IsS130.far ?_ NB542_547.out _|refine IsS130.far ?_ NB542_551.out _)|exact HI542.out)⟩
              have n4_:Aside0 (Below w.heap.size w (((((w38.setCell ⟨gb551,0,none⟩ (.string t548)).setCell ⟨gb551,1,none⟩ (.int .i64 t549)).setCell ⟨gb551,2,none⟩ (.int .i64 t550)).setCell ⟨gb545,0,none⟩ (.string t548)).setCell ⟨gb545,1,none⟩ (.int .i64 t549))):=⟨by repeat (first|(with_reducible first|exact HB.out|apply below_alloc|apply pw_below_drewN|apply below_drew1|refine below_set ?_ (IsS130.ge HI542.out)|refine below_set ?_ GE545.out|refine below_set ?_ GE547.out|refine below_set ?_ GE551.out)|exact HB.out)⟩
              (try clear BK545)
              (try clear BK547)
              (try clear BK551)
              (try clear HI542)
              (try clear HB)
              generalize (((((w38.setCell ⟨gb551,0,none⟩ (.string t548)).setCell ⟨gb551,1,none⟩ (.int .i64 t549)).setCell ⟨gb551,2,none⟩ (.int .i64 t550)).setCell ⟨gb545,0,none⟩ (.string t548)).setCell ⟨gb545,1,none⟩ (.int .i64 t549))=w44 at n0_ n1_ n2_ n3_ n4_ ⊢
              have BK545:=n0_
              have BK547:=n1_
              have BK551:=n2_
              have HI542:=n3_
              have HB:=n4_
              clear n0_ n1_ n2_ n3_ n4_
              have n0_:=Aside0.mk (blk_drew BK545.out)
              have n1_:=Aside0.mk (blk_drew BK547.out)
              have n2_:=Aside0.mk (blk_drew BK551.out)
              have n3_:=Aside0.mk (IsS130.drew HI542.out)
              have n4_:=Aside0.mk (below_drew1 HB.out)
              clear BK545
              clear BK547
              clear BK551
              clear HI542
              clear HB
              have BK545:=n0_
              have BK547:=n1_
              have BK551:=n2_
              have HI542:=n3_
              have HB:=n4_
              clear n0_ n1_ n2_ n3_ n4_
              refine start_ (n:=6) (S:=fun w'=>w'.cell? ⟨gb551,0,none⟩=some (.string t548)∧w'.cell? ⟨gb551,1,none⟩=some (.int .i64 t549)∧w'.cell? ⟨gb551,2,none⟩=some (.int .i64 t550)) (ds:=[]) #[false,false,false,false,false,false] (by kernel_rfl) rfl rfl ⟨(blk_cell BK551.out 0).trans rfl,(blk_cell BK551.out 1).trans rfl,(blk_cell BK551.out 2).trans rfl⟩ (fun hHeld=>?_)
              generalize w44.drew=w45 at BK545 BK547 BK551 HI542 HB hHeld ⊢
              refine pure_ (i:=0) (N:=some 54) (v:=?_) (a':=?_) #[true,false,false,false,false,false] rfl rfl (by kernel_rfl) (fun _ _ _ h=>h) (Or.inl ⟨by rfl,?_⟩) ?_ ?_
              rotate_left
              ·
               intro w'
               go_simp
               with_reducible rfl
              rotate_left
              ·
               simp only [Act.put,List.setIfInBounds_toArray,List.set_cons_zero,List.set_cons_succ,i64_w,i32_w]
               rfl
              refine pure_ (i:=3) (N:=some 57) (v:=?_) (a':=?_) #[true,false,false,true,false,false] rfl rfl (by kernel_rfl) (fun _ _ _ h=>h) (Or.inl ⟨by rfl,?_⟩) ?_ ?_
              rotate_left
              ·
               intro w'
               go_simp
               with_reducible rfl
              rotate_left
              ·
               simp only [Act.put,List.setIfInBounds_toArray,List.set_cons_zero,List.set_cons_succ,i64_w,i32_w]
               rfl
              refine take_ (i:=4) (N:=some 58) (v:=?_) (a':=?_) #[true,false,false,true,true,false] rfl rfl (by kernel_rfl) (fun _ _ _ h=>h) (Or.inl ⟨by rfl,?_⟩) hHeld ?_ ?_
              rotate_left
              ·
               rintro w' ⟨s0,s1,s2⟩
               go_simp
               with_reducible rfl
              rotate_left
              ·
               simp only [Act.put,List.setIfInBounds_toArray,List.set_cons_zero,List.set_cons_succ,i64_w,i32_w]
               rfl
              refine one_ (i:=1) (N:=some 55) #[true,true,false,true,true,false] rfl rfl (by kernel_rfl) (by decide) (fun K hK=>?_)
              refine goes_ Try.func67 (by kernel_rfl) rfl #[.pointer (some ⟨g542,0,none⟩)] (by rfl) rfl rfl (by (try simp only [List.map_toArray,List.map_cons,List.map_nil]);first|done|rfl|(simp only [List.length_drop,List.length_take];rfl)) ?_
              with_reducible refine (prng_Gen_Word.calls kj19 g542 x543000_2 x543001_2 x543002_2 t552 t553 t554 t555 w _ ?side1 ?side2 A27.out).mono ?_
              (case side1=>repeat (first|(with_reducible first|exact HI542.out|apply IsS130.alloc|apply IsS130.drewN|apply IsS130.drew|apply IsS130.set_0|apply IsS130.set_1|apply IsS130.set_2|refine IsS130.far ?_ NB542_545.out _|refine IsS130.far ?_ NB542_547.out _|refine IsS130.far ?_ NB542_551.out _)|exact HI542.out))
              (case side2=>repeat (first|(with_reducible first|exact HB.out|apply below_alloc|apply pw_below_drewN|apply below_drew1|refine below_set ?_ (IsS130.ge HI542.out)|refine below_set ?_ GE545.out|refine below_set ?_ GE547.out|refine below_set ?_ GE551.out)|exact HB.out))
              rintro e w46 ⟨rfl,hi,hb,hk⟩
              refine ⟨_,rfl,?_⟩
              have n0_:=Aside0.mk (KeepBut.blk hk (g':=gb545) (o:=.cells #[.string t548,.int .i64 t549] 83 (0,0)) (by (with_reducible repeat (first|refine blk_drewN ?_ _|refine blk_drew ?_|refine blk_alloc ?_ _));exact BK545.out) NB545_542.out (by simp))
              have n1_:=Aside0.mk (KeepBut.blk hk (g':=gb547) (o:=.cells #[.int .i64 ((rd_T90 l1 x7_2).f0),.int .i64 ((rd_T90 l1 x7_2).f1),.int .i64 ((rd_T90 l1 x7_2).f2)] 90 (0,0)) (by (with_reducible repeat (first|refine blk_drewN ?_ _|refine blk_drew ?_|refine blk_alloc ?_ _));exact BK547.out) NB547_542.out (by simp))
              have n2_:=Aside0.mk (KeepBut.blk hk (g':=gb551) (o:=.cells #[.string t548,.int .i64 t549,.int .i64 t550] 85 (0,0)) (by (with_reducible repeat (first|refine blk_drewN ?_ _|refine blk_drew ?_|refine blk_alloc ?_ _));exact BK551.out) NB551_542.out (by simp))
              have n3_:=Aside0.mk (hb)
              have n4_:=Aside0.mk (hi)
              clear BK545
              clear BK547
              clear BK551
              clear HB
              clear HI542
              have BK545:=n0_
              have BK547:=n1_
              have BK551:=n2_
              have HB:=n3_
              have HI542:=n4_
              clear n0_ n1_ n2_ n3_ n4_
              (try clear hb)
              (try clear hb2)
              (try clear hk)
              (try clear hi)
              refine hK.out _ _ ⟨(blk_cell BK551.out 0).trans rfl,(blk_cell BK551.out 1).trans rfl,(blk_cell BK551.out 2).trans rfl⟩ (fun hHeld=>?_)
              clear hK K
              refine norm_ (a':=?_) ?_ ?_
              rotate_left
              ·
               show Act.put _ (some 55) _=_
               simp only [Act.put,List.setIfInBounds_toArray,List.set_cons_zero,List.set_cons_succ,i64_w,i32_w]
               rfl
              refine pure_ (i:=2) (N:=some 56) (v:=?_) (a':=?_) #[true,true,true,true,true,false] rfl rfl (by kernel_rfl) (fun _ _ _ h=>h) (Or.inl ⟨by rfl,?_⟩) ?_ ?_
              rotate_left
              ·
               intro w'
               go_simp
               with_reducible rfl
              rotate_left
              ·
               simp only [Act.put,List.setIfInBounds_toArray,List.set_cons_zero,List.set_cons_succ,i64_w,i32_w]
               rfl
              refine pure_ (i:=5) (N:=some 59) (v:=?_) (a':=?_) #[true,true,true,true,true,true] rfl rfl (by kernel_rfl) (fun _ _ _ h=>h) (Or.inl ⟨by rfl,?_⟩) ?_ ?_
              rotate_left
              ·
               intro w'
               go_simp
               with_reducible rfl
              rotate_left
              ·
               simp only [Act.put,List.setIfInBounds_toArray,List.set_cons_zero,List.set_cons_succ,i64_w,i32_w]
               rfl
              refine done_ (by kernel_rfl) ?_
              try go_wp2
              have n0_:=Aside0.mk (blk_drew BK545.out)
              have n1_:=Aside0.mk (blk_drew BK547.out)
              have n2_:=Aside0.mk (blk_drew BK551.out)
              have n3_:=Aside0.mk (IsS130.drew HI542.out)
              have n4_:=Aside0.mk (below_drew1 HB.out)
              clear BK545
              clear BK547
              clear BK551
              clear HI542
              clear HB
              have BK545:=n0_
              have BK547:=n1_
              have BK551:=n2_
              have HI542:=n3_
              have HB:=n4_
              clear n0_ n1_ n2_ n3_ n4_
              refine start_ (n:=5) (S:=fun w'=>w'.cell? ⟨gb545,0,none⟩=some (.string t548)∧w'.cell? ⟨gb545,1,none⟩=some (.int .i64 t549)) (ds:=[]) #[false,false,false,false,false] (by kernel_rfl) rfl rfl ⟨(blk_cell BK545.out 0).trans rfl,(blk_cell BK545.out 1).trans rfl⟩ (fun hHeld=>?_)
              generalize w46.drew=w47 at BK545 BK547 BK551 HI542 HB hHeld ⊢
              refine pure_ (i:=0) (N:=some 104) (v:=?_) (a':=?_) #[true,false,false,false,false] rfl rfl (by kernel_rfl) (fun _ _ _ h=>h) (Or.inl ⟨by rfl,?_⟩) ?_ ?_
              rotate_left
              ·
               intro w'
               go_simp
               with_reducible rfl
              rotate_left
              ·
               simp only [Act.put,List.setIfInBounds_toArray,List.set_cons_zero,List.set_cons_succ,i64_w,i32_w]
               rfl
              refine pure_ (i:=2) (N:=some 106) (v:=?_) (a':=?_) #[true,false,true,false,false] rfl rfl (by kernel_rfl) (fun _ _ _ h=>h) (Or.inl ⟨by rfl,?_⟩) ?_ ?_
              rotate_left
              ·
               intro w'
               go_simp
               with_reducible rfl
              rotate_left
              ·
               simp only [Act.put,List.setIfInBounds_toArray,List.set_cons_zero,List.set_cons_succ,i64_w,i32_w]
               rfl
              refine take_ (i:=3) (N:=some 107) (v:=?_) (a':=?_) #[true,false,true,true,false] rfl rfl (by kernel_rfl) (fun _ _ _ h=>h) (Or.inl ⟨by rfl,?_⟩) hHeld ?_ ?_
              rotate_left
              ·
               rintro w' ⟨s0,s1⟩
               go_simp
               with_reducible rfl
              rotate_left
              ·
               simp only [Act.put,List.setIfInBounds_toArray,List.set_cons_zero,List.set_cons_succ,i64_w,i32_w]
               rfl
              refine one_ (i:=1) (N:=some 105) #[true,true,true,true,false] rfl rfl (by kernel_rfl) (by decide) (fun K hK=>?_)
              refine goes_ Try.func68 (by kernel_rfl) rfl #[.pointer (some ⟨g542,0,none⟩)] (by rfl) rfl rfl (by (try simp only [List.map_toArray,List.map_cons,List.map_nil]);first|done|rfl|(simp only [List.length_drop,List.length_take];rfl)) ?_
              with_reducible refine (prng_Gen_Used.calls g542 t553 t554 t555 t556 t557 t558 t559 w _ ?side1 ?side2 A29.out).mono ?_
              (case side1=>repeat (first|(with_reducible first|exact HI542.out|apply IsS130.alloc|apply IsS130.drewN|apply IsS130.drew|apply IsS130.set_0|apply IsS130.set_1|apply IsS130.set_2|refine IsS130.far ?_ NB542_545.out _|refine IsS130.far ?_ NB542_547.out _|refine IsS130.far ?_ NB542_551.out _)|exact HI542.out))
              (case side2=>repeat (first|(with_reducible first|exact HB.out|apply below_alloc|apply pw_below_drewN|apply below_drew1|refine below_set ?_ (IsS130.ge HI542.out)|refine below_set ?_ GE545.out|refine below_set ?_ GE547.out|refine below_set ?_ GE551.out)|exact HB.out))
              rintro e w48 ⟨rfl,hi,hb,hk⟩
              refine ⟨_,rfl,?_⟩
              have n0_:=Aside0.mk (KeepBut.blk hk (g':=gb545) (o:=.cells #[.string t548,.int .i64 t549] 83 (0,0)) (by (with_reducible repeat (first|refine blk_drewN ?_ _|refine blk_drew ?_|refine blk_alloc ?_ _));exact BK545.out) NB545_542.out (by simp))
              have n1_:=Aside0.mk (KeepBut.blk hk (g':=gb547) (o:=.cells #[.int .i64 ((rd_T90 l1 x7_2).f0),.int .i64 ((rd_T90 l1 x7_2).f1),.int .i64 ((rd_T90 l1 x7_2).f2)] 90 (0,0)) (by (with_reducible repeat (first|refine blk_drewN ?_ _|refine blk_drew ?_|refine blk_alloc ?_ _));exact BK547.out) NB547_542.out (by simp))
              have n2_:=Aside0.mk (KeepBut.blk hk (g':=gb551) (o:=.cells #[.string t548,.int .i64 t549,.int .i64 t550] 85 (0,0)) (by (with_reducible repeat (first|refine blk_drewN ?_ _|refine blk_drew ?_|refine blk_alloc ?_ _));exact BK551.out) NB551_542.out (by simp))
              have n3_:=Aside0.mk (hb)
              have n4_:=Aside0.mk (hi)
              clear BK545
              clear BK547
              clear BK551
              clear HB
              clear HI542
              have BK545:=n0_
              have BK547:=n1_
              have BK551:=n2_
              have HB:=n3_
              have HI542:=n4_
              clear n0_ n1_ n2_ n3_ n4_
              (try clear hb)
              (try clear hb2)
              (try clear hk)
              (try clear hi)
              refine hK.out _ _ ⟨(blk_cell BK545.out 0).trans rfl,(blk_cell BK545.out 1).trans rfl⟩ (fun hHeld=>?_)
              clear hK K
              refine norm_ (a':=?_) ?_ ?_
              rotate_left
              ·
               show Act.put _ (some 105) _=_
               simp only [Act.put,List.setIfInBounds_toArray,List.set_cons_zero,List.set_cons_succ,i64_w,i32_w]
               rfl
              refine pure_ (i:=4) (N:=some 108) (v:=?_) (a':=?_) #[true,true,true,true,true] rfl rfl (by kernel_rfl) (fun _ _ _ h=>h) (Or.inl ⟨by rfl,?_⟩) ?_ ?_
              rotate_left
              ·
               intro w'
               go_simp
               with_reducible rfl
              rotate_left
              ·
               simp only [Act.put,List.setIfInBounds_toArray,List.set_cons_zero,List.set_cons_succ,i64_w,i32_w]
               rfl
              refine done_ (by kernel_rfl) ?_
              try go_wp2
              go_roundg kj19
              case measure=>have:=HJ3.out;have:=HK2.out;have:=HJ19.out;omega
              case rel=>exact ⟨(wrap64 (x7_2+1)),(t557),(t558),(t559),(t548),(t549),(by first|rfl|(simp;done)|(simp [*];done)),H',⟨by have:=HJ3.out;have:=HK2.out;have:=HJ19.out;omega⟩,⟨by (with_reducible repeat (first|refine blk_drewN ?_ _|refine blk_drew ?_|refine blk_alloc ?_ _));exact BK545.out⟩,⟨by repeat (first|(with_reducible first|exact HI542.out|apply IsS130.alloc|apply IsS130.drewN|apply IsS130.drew|apply IsS130.set_0|apply IsS130.set_1|apply IsS130.set_2|refine IsS130.far ?_ NB542_545.out _|refine IsS130.far ?_ NB542_547.out _|refine IsS130.far ?_ NB542_551.out _)|exact HI542.out)⟩,⟨by repeat (first|(with_reducible first|exact HB.out|apply below_alloc|apply pw_below_drewN|apply below_drew1|refine below_set ?_ (IsS130.ge HI542.out)|refine below_set ?_ GE545.out|refine below_set ?_ GE547.out|refine below_set ?_ GE551.out)|exact HB.out)⟩⟩
             ·
              rw [if_neg c30] at H
              have c30b0:(t556 == t549)=false:=beq_eq_false_iff_ne.mpr c30
              have c30b1:(t556 != t549)=true:=bne_iff_ne.mpr c30
              exact absurd (Option.some.inj H) (by simp)
            ·
             rw [if_neg c28] at H
             have c28b0:((wrap64 (t552)) == t550)=false:=beq_eq_false_iff_ne.mpr c28
             have c28b1:((wrap64 (t552)) != t550)=true:=bne_iff_ne.mpr c28
             exact absurd (Option.some.inj H) (by simp)
           ·
            rw [if_neg c25] at H
            have c25b0:(((rd_T90 l1 x7_2).f0) == 0)=false:=beq_eq_false_iff_ne.mpr c25
            have c25b1:(((rd_T90 l1 x7_2).f0) != 0)=true:=bne_iff_ne.mpr c25
            by_cases c83:((rd_T90 l1 x7_2).f0)=1
            ·
             rw [if_pos c83] at H
             have c83b0:(((rd_T90 l1 x7_2).f0) == 1)=true:=beq_iff_eq.mpr c83
             have c83b1:(((rd_T90 l1 x7_2).f0) != 1)=false:=bne_eq_false_iff_eq.mpr c83
             clear c83
             replace H:=Option.bind_eq_some_iff.mp H
             obtain ⟨⟨t560,t561,t562⟩,A840,H⟩:=H
             replace H:((prng_Gen_Below.f kj19 x543000_2 x543001_2 x543002_2 ((rd_T90 l1 x7_2).f1)).bind fun bt564=>(if bt564.1=t562 then ((prng_Gen_Used.f bt564.2.1 bt564.2.2.1 bt564.2.2.2).bind fun bt568=>(if bt568.1=t561 then (mosaiclaw04_PrngDraws.l0 kj19 l1 (wrap64 (x7_2+1)) bt568.2.1 bt568.2.2.1 bt568.2.2.2 t560 t561) else (some false))) else (some false)))=some true:=H
             have A84:=Aside0.mk A840
             clear A840
             replace H:=Option.bind_eq_some_iff.mp H
             obtain ⟨⟨t564,t565,t566,t567⟩,A850,H⟩:=H
             replace H:(if t564=t562 then ((prng_Gen_Used.f t565 t566 t567).bind fun bt568=>(if bt568.1=t561 then (mosaiclaw04_PrngDraws.l0 kj19 l1 (wrap64 (x7_2+1)) bt568.2.1 bt568.2.2.1 bt568.2.2.2 t560 t561) else (some false))) else (some false))=some true:=H
             have A85:=Aside0.mk A850
             clear A850
             by_cases c86:t564=t562
             ·
              rw [if_pos c86] at H
              have c86b0:(t564 == t562)=true:=beq_iff_eq.mpr c86
              have c86b1:(t564 != t562)=false:=bne_eq_false_iff_eq.mpr c86
              clear c86
              replace H:=Option.bind_eq_some_iff.mp H
              obtain ⟨⟨t568,t569,t570,t571⟩,A870,H⟩:=H
              replace H:(if t568=t561 then (mosaiclaw04_PrngDraws.l0 kj19 l1 (wrap64 (x7_2+1)) t569 t570 t571 t560 t561) else (some false))=some true:=H
              have A87:=Aside0.mk A870
              clear A870
              by_cases c88:t568=t561
              ·
               rw [if_pos c88] at H
               have c88b0:(t568 == t561)=true:=beq_iff_eq.mpr c88
               have c88b1:(t568 != t561)=false:=bne_eq_false_iff_eq.mpr c88
               clear c88
               have H':=Aside0.mk H
               clear H
               have p546:0≤(x7_2:Int):=of_decide_eq_true (by first|(with_reducible assumption)|assumption)
               have q546:x7_2 < (l1.length:Int):=of_decide_eq_true (by first|(with_reducible assumption)|assumption)
               obtain ⟨ad546,e546,hx546_0,hx546_1,hx546_2⟩:=at_T90 HR1.out x7_2 p546 q546
               cases e546
               replace hx546_0:=(HB.out.cell (World.block_lt_of_cell? w _ hx546_0)).trans hx546_0
               replace hx546_1:=(HB.out.cell (World.block_lt_of_cell? w _ hx546_1)).trans hx546_1
               replace hx546_2:=(HB.out.cell (World.block_lt_of_cell? w _ hx546_2)).trans hx546_2
               replace p546:=eq_true p546
               replace q546:=eq_true q546
               try go_wp2_with (first|((with_reducible refine gate_dst (N:=8) rfl ?_);(try (refine gate_guard (by rfl) ?_;dsimp only));refine box_event ?hg (N:=8) ?hd (cs:=#[.int .i64 0,.int .i64 0,.int .i64 0]) (t:=90) ?hr ?_;(case hd=>rfl);(case hg=>rfl);(case hr=>first|(go_simp;done)|(go_simp;rfl));intro gb547 hg w89 hbox hb;have n0_:=Aside0.mk (blk_below (g:=gb545) (o:=.cells #[.string x546000_2,.int .i64 x546001_2] 83 (0,0)) (by (with_reducible repeat (first|refine blk_drewN ?_ _|refine blk_drew ?_|refine blk_alloc ?_ _));exact BK545.out) hb);have n1_:=Aside0.mk (IsS130.below (by repeat (first|(with_reducible first|exact HI542.out|apply IsS130.alloc|apply IsS130.drewN|apply IsS130.drew|apply IsS130.set_0|apply IsS130.set_1|apply IsS130.set_2|refine IsS130.far ?_ NB542_545.out _)|exact HI542.out)) hb);have n2_:=Aside0.mk (below_step (by repeat (first|(with_reducible first|exact HB.out|apply below_alloc|apply pw_below_drewN|apply below_drew1|refine below_set ?_ (IsS130.ge HI542.out)|refine below_set ?_ GE545.out)|exact HB.out)) hb);have n3_:=Aside0.mk (hbox);have n4_:=Aside0.mk ((by rw [hg];exact (below_size (by repeat (first|(with_reducible first|exact HB.out|apply below_alloc|apply pw_below_drewN|apply below_drew1|refine below_set ?_ (IsS130.ge HI542.out)|refine below_set ?_ GE545.out)|exact HB.out))):w.heap.size≤gb547));have n5_:=Aside0.mk ((by rw [hg];exact (below_size (by repeat (first|(with_reducible first|exact HB.out|apply below_alloc|apply pw_below_drewN|apply below_drew1|refine below_set ?_ (IsS130.ge HI542.out)|refine below_set ?_ GE545.out)|exact HB.out))):w.heap.size≤gb547));have n6_:=Aside0.mk ((by rw [hg];exact Nat.ne_of_lt (blk_lt (g:=gb545) (o:=.cells #[.string x546000_2,.int .i64 x546001_2] 83 (0,0)) (by (with_reducible repeat (first|refine blk_drewN ?_ _|refine blk_drew ?_|refine blk_alloc ?_ _));exact BK545.out)):gb545≠gb547));have n7_:=Aside0.mk ((by rw [hg];exact Nat.ne_of_gt (blk_lt (g:=gb545) (o:=.cells #[.string x546000_2,.int .i64 x546001_2] 83 (0,0)) (by (with_reducible repeat (first|refine blk_drewN ?_ _|refine blk_drew ?_|refine blk_alloc ?_ _));exact BK545.out)):gb547≠gb545));have n8_:=Aside0.mk ((by rw [hg];exact Nat.ne_of_lt (IsS130.lt (show IsS130 w _ g542 x543000_2 x543001_2 x543002_2 from by repeat (first|(with_reducible first|exact HI542.out|apply IsS130.alloc|apply IsS130.drewN|apply IsS130.drew|apply IsS130.set_0|apply IsS130.set_1|apply IsS130.set_2|refine IsS130.far ?_ NB542_545.out _)|exact HI542.out))):g542≠gb547));have n9_:=Aside0.mk ((by rw [hg];exact Nat.ne_of_gt (IsS130.lt (show IsS130 w _ g542 x543000_2 x543001_2 x543002_2 from by repeat (first|(with_reducible first|exact HI542.out|apply IsS130.alloc|apply IsS130.drewN|apply IsS130.drew|apply IsS130.set_0|apply IsS130.set_1|apply IsS130.set_2|refine IsS130.far ?_ NB542_545.out _)|exact HI542.out))):gb547≠g542));clear BK545;clear HI542;clear HB;have BK545:=n0_;have HI542:=n1_;have HB:=n2_;have BK547:=n3_;have GW547:=n4_;have GE547:=n5_;have NB545_547:=n6_;have NB547_545:=n7_;have NB542_547:=n8_;have NB547_542:=n9_;clear n0_ n1_ n2_ n3_ n4_ n5_ n6_ n7_ n8_ n9_;clear hb hbox hg;have hnb90:=NB547_545.out;have hnc90:=NB545_547.out;have hnb91:=NB547_542.out;have hnc91:=NB542_547.out;have hcz92_0:w89.cell? ⟨gb547,0,none⟩=some (.int .i64 0):=(blk_cell BK547.out 0).trans rfl;have hcz92_1:w89.cell? ⟨gb547,1,none⟩=some (.int .i64 0):=(blk_cell BK547.out 1).trans rfl;have hcz92_2:w89.cell? ⟨gb547,2,none⟩=some (.int .i64 0):=(blk_cell BK547.out 2).trans rfl;have hfz92_0:=blk_frozen BK547.out 0;have hfz92_1:=blk_frozen BK547.out 1;have hfz92_2:=blk_frozen BK547.out 2;have hnb93:=NB545_542.out;have hnc93:=NB542_545.out;have hcz94_0:w89.cell? ⟨gb545,0,none⟩=some (.string x546000_2):=(blk_cell BK545.out 0).trans rfl;have hcz94_1:w89.cell? ⟨gb545,1,none⟩=some (.int .i64 x546001_2):=(blk_cell BK545.out 1).trans rfl;have hfz94_0:=blk_frozen BK545.out 0;have hfz94_1:=blk_frozen BK545.out 1)|((with_reducible refine gate_callee (f:=69) rfl ?_);refine goesL_ (some 65) rfl rfl Try.func69 (by kernel_rfl) rfl #[.agg #[.string x546000_2,.int .i64 x546001_2],.int .i64 ((rd_T90 l1 x7_2).f1)] rfl (by (try simp only [List.map_toArray,List.map_cons,List.map_nil]);first|done|rfl|(simp only [List.length_drop,List.length_take];rfl)) ?_;(with_reducible refine (mosaicref04_Gen_Below.calls kj19 x546000_2 x546001_2 ((rd_T90 l1 x7_2).f1) t560 t561 t562 _ A84.out).mono ?_);rintro e w95 ⟨rfl,hb⟩;refine ⟨_,rfl,?_⟩;have n0_:=Aside0.mk (blk_below (g:=gb545) (o:=.cells #[.string x546000_2,.int .i64 x546001_2] 83 (0,0)) (by (with_reducible repeat (first|refine blk_drewN ?_ _|refine blk_drew ?_|refine blk_alloc ?_ _));refine blk_far ?_ NB545_547.out _;(with_reducible repeat (first|refine blk_drewN ?_ _|refine blk_drew ?_|refine blk_alloc ?_ _));refine blk_far ?_ NB545_547.out _;(with_reducible repeat (first|refine blk_drewN ?_ _|refine blk_drew ?_|refine blk_alloc ?_ _));refine blk_far ?_ NB545_547.out _;(with_reducible repeat (first|refine blk_drewN ?_ _|refine blk_drew ?_|refine blk_alloc ?_ _));exact BK545.out) hb);have n1_:=Aside0.mk (IsS130.below (show IsS130 w (((w89.setCell ⟨gb547,0,none⟩ (.int .i64 ((rd_T90 l1 x7_2).f0))).setCell ⟨gb547,1,none⟩ (.int .i64 ((rd_T90 l1 x7_2).f1))).setCell ⟨gb547,2,none⟩ (.int .i64 ((rd_T90 l1 x7_2).f2))) g542 x543000_2 x543001_2 x543002_2 from by repeat (first|(with_reducible first|exact HI542.out|apply IsS130.alloc|apply IsS130.drewN|apply IsS130.drew|apply IsS130.set_0|apply IsS130.set_1|apply IsS130.set_2|refine IsS130.far ?_ NB542_545.out _|refine IsS130.far ?_ NB542_547.out _)|exact HI542.out)) hb);have n2_:=Aside0.mk (blk_below (g:=gb547) (o:=.cells #[.int .i64 ((rd_T90 l1 x7_2).f0),.int .i64 ((rd_T90 l1 x7_2).f1),.int .i64 ((rd_T90 l1 x7_2).f2)] 90 (0,0)) (by (with_reducible repeat (first|refine blk_drewN ?_ _|refine blk_drew ?_|refine blk_alloc ?_ _));refine blk_put (cs:=#[.int .i64 ((rd_T90 l1 x7_2).f0),.int .i64 ((rd_T90 l1 x7_2).f1),.int .i64 0]) ?_ 2 _ rfl;(with_reducible repeat (first|refine blk_drewN ?_ _|refine blk_drew ?_|refine blk_alloc ?_ _));refine blk_put (cs:=#[.int .i64 ((rd_T90 l1 x7_2).f0),.int .i64 0,.int .i64 0]) ?_ 1 _ rfl;(with_reducible repeat (first|refine blk_drewN ?_ _|refine blk_drew ?_|refine blk_alloc ?_ _));refine blk_put (cs:=#[.int .i64 0,.int .i64 0,.int .i64 0]) ?_ 0 _ rfl;(with_reducible repeat (first|refine blk_drewN ?_ _|refine blk_drew ?_|refine blk_alloc ?_ _));exact BK547.out) hb);have n3_:=Aside0.mk (below_step (by repeat (first|(with_reducible first|exact HB.out|apply below_alloc|apply pw_below_drewN|apply below_drew1|refine below_set ?_ (IsS130.ge HI542.out)|refine below_set ?_ GE545.out|refine below_set ?_ GE547.out)|exact HB.out)) hb);clear BK545;clear HI542;clear BK547;clear HB;have BK545:=n0_;have HI542:=n1_;have BK547:=n2_;have HB:=n3_;clear n0_ n1_ n2_ n3_;(try clear hb);(try clear hb2);(try clear hk);(try clear hi))|((with_reducible refine gate_dst (N:=10) rfl ?_);(try (refine gate_guard (by rfl) ?_;dsimp only));refine box_event ?hg (N:=10) ?hd (cs:=#[.string (⟨#[]⟩:ByteArray),.int .i64 0,.int .i64 0]) (t:=85) ?hr ?_;(case hd=>rfl);(case hg=>rfl);(case hr=>first|(go_simp;done)|(go_simp;rfl));intro gb563 hg w96 hbox hb;have n0_:=Aside0.mk (blk_below (g:=gb545) (o:=.cells #[.string x546000_2,.int .i64 x546001_2] 83 (0,0)) (by (with_reducible repeat (first|refine blk_drewN ?_ _|refine blk_drew ?_|refine blk_alloc ?_ _));exact BK545.out) hb);have n1_:=Aside0.mk (IsS130.below (by repeat (first|(with_reducible first|exact HI542.out|apply IsS130.alloc|apply IsS130.drewN|apply IsS130.drew|apply IsS130.set_0|apply IsS130.set_1|apply IsS130.set_2|refine IsS130.far ?_ NB542_545.out _|refine IsS130.far ?_ NB542_547.out _)|exact HI542.out)) hb);have n2_:=Aside0.mk (blk_below (g:=gb547) (o:=.cells #[.int .i64 ((rd_T90 l1 x7_2).f0),.int .i64 ((rd_T90 l1 x7_2).f1),.int .i64 ((rd_T90 l1 x7_2).f2)] 90 (0,0)) (by (with_reducible repeat (first|refine blk_drewN ?_ _|refine blk_drew ?_|refine blk_alloc ?_ _));exact BK547.out) hb);have n3_:=Aside0.mk (below_step (by repeat (first|(with_reducible first|exact HB.out|apply below_alloc|apply pw_below_drewN|apply below_drew1|refine below_set ?_ (IsS130.ge HI542.out)|refine below_set ?_ GE545.out|refine below_set ?_ GE547.out)|exact HB.out)) hb);have n4_:=Aside0.mk (hbox);have n5_:=Aside0.mk ((by rw [hg];exact (below_size (by repeat (first|(with_reducible first|exact HB.out|apply below_alloc|apply pw_below_drewN|apply below_drew1|refine below_set ?_ (IsS130.ge HI542.out)|refine below_set ?_ GE545.out|refine below_set ?_ GE547.out)|exact HB.out))):w.heap.size≤gb563));have n6_:=Aside0.mk ((by rw [hg];exact (below_size (by repeat (first|(with_reducible first|exact HB.out|apply below_alloc|apply pw_below_drewN|apply below_drew1|refine below_set ?_ (IsS130.ge HI542.out)|refine below_set ?_ GE545.out|refine below_set ?_ GE547.out)|exact HB.out))):w.heap.size≤gb563));have n7_:=Aside0.mk ((by rw [hg];exact Nat.ne_of_lt (blk_lt (g:=gb545) (o:=.cells #[.string x546000_2,.int .i64 x546001_2] 83 (0,0)) (by (with_reducible repeat (first|refine blk_drewN ?_ _|refine blk_drew ?_|refine blk_alloc ?_ _));exact BK545.out)):gb545≠gb563));have n8_:=Aside0.mk ((by rw [hg];exact Nat.ne_of_gt (blk_lt (g:=gb545) (o:=.cells #[.string x546000_2,.int .i64 x546001_2] 83 (0,0)) (by (with_reducible repeat (first|refine blk_drewN ?_ _|refine blk_drew ?_|refine blk_alloc ?_ _));exact BK545.out)):gb563≠gb545));have n9_:=Aside0.mk ((by rw [hg];exact Nat.ne_of_lt (blk_lt (g:=gb547) (o:=.cells #[.int .i64 ((rd_T90 l1 x7_2).f0),.int .i64 ((rd_T90 l1 x7_2).f1),.int .i64 ((rd_T90 l1 x7_2).f2)] 90 (0,0)) (by (with_reducible repeat (first|refine blk_drewN ?_ _|refine blk_drew ?_|refine blk_alloc ?_ _));exact BK547.out)):gb547≠gb563));have n10_:=Aside0.mk ((by rw [hg];exact Nat.ne_of_gt (blk_lt (g:=gb547) (o:=.cells #[.int .i64 ((rd_T90 l1 x7_2).f0),.int .i64 ((rd_T90 l1 x7_2).f1),.int .i64 ((rd_T90 l1 x7_2).f2)] 90 (0,0)) (by (with_reducible repeat (first|refine blk_drewN ?_ _|refine blk_drew ?_|refine blk_alloc ?_ _));exact BK547.out)):gb563≠gb547));have n11_:=Aside0.mk ((by rw [hg];exact Nat.ne_of_lt (IsS130.lt (show IsS130 w _ g542 x543000_2 x543001_2 x543002_2 from by repeat (first|(with_reducible first|exact HI542.out|apply IsS130.alloc|apply IsS130.drewN|apply IsS130.drew|apply IsS130.set_0|apply IsS130.set_1|apply IsS130.set_2|refine IsS130.far ?_ NB542_545.out _|refine IsS130.far ?_ NB542_547.out _)|exact HI542.out))):g542≠gb563));have n12_:=Aside0.mk ((by rw [hg];exact Nat.ne_of_gt (IsS130.lt (show IsS130 w _ g542 x543000_2 x543001_2 x543002_2 from by repeat (first|(with_reducible first|exact HI542.out|apply IsS130.alloc|apply IsS130.drewN|apply IsS130.drew|apply IsS130.set_0|apply IsS130.set_1|apply IsS130.set_2|refine IsS130.far ?_ NB542_545.out _|refine IsS130.far ?_ NB542_547.out _)|exact HI542.out))):gb563≠g542));clear BK545;clear HI542;clear BK547;clear HB;have BK545:=n0_;have HI542:=n1_;have BK547:=n2_;have HB:=n3_;have BK563:=n4_;have GW563:=n5_;have GE563:=n6_;have NB545_563:=n7_;have NB563_545:=n8_;have NB547_563:=n9_;have NB563_547:=n10_;have NB542_563:=n11_;have NB563_542:=n12_;clear n0_ n1_ n2_ n3_ n4_ n5_ n6_ n7_ n8_ n9_ n10_ n11_ n12_;clear hb hbox hg;have hnb97:=NB563_545.out;have hnc97:=NB545_563.out;have hnb98:=NB563_547.out;have hnc98:=NB547_563.out;have hnb99:=NB563_542.out;have hnc99:=NB542_563.out;have hcz100_0:w96.cell? ⟨gb563,0,none⟩=some (.string (⟨#[]⟩:ByteArray)):=(blk_cell BK563.out 0).trans rfl;have hcz100_1:w96.cell? ⟨gb563,1,none⟩=some (.int .i64 0):=(blk_cell BK563.out 1).trans rfl;have hcz100_2:w96.cell? ⟨gb563,2,none⟩=some (.int .i64 0):=(blk_cell BK563.out 2).trans rfl;have hfz100_0:=blk_frozen BK563.out 0;have hfz100_1:=blk_frozen BK563.out 1;have hfz100_2:=blk_frozen BK563.out 2;have hcz101_0:w96.cell? ⟨gb545,0,none⟩=some (.string x546000_2):=(blk_cell BK545.out 0).trans rfl;have hcz101_1:w96.cell? ⟨gb545,1,none⟩=some (.int .i64 x546001_2):=(blk_cell BK545.out 1).trans rfl;have hfz101_0:=blk_frozen BK545.out 0;have hfz101_1:=blk_frozen BK545.out 1))
               have n0_:Aside0 ((((((w96.setCell ⟨gb563,0,none⟩ (.string t560)).setCell ⟨gb563,1,none⟩ (.int .i64 t561)).setCell ⟨gb563,2,none⟩ (.int .i64 t562)).setCell ⟨gb545,0,none⟩ (.string t560)).setCell ⟨gb545,1,none⟩ (.int .i64 t561)).heap[gb545]?=some (.cells #[.string t560,.int .i64 t561] 83 (0,0))):=⟨by (with_reducible repeat (first|refine blk_drewN ?_ _|refine blk_drew ?_|refine blk_alloc ?_ _));refine blk_put (cs:=#[.string t560,.int .i64 x546001_2]) ?_ 1 _ rfl;(with_reducible repeat (first|refine blk_drewN ?_ _|refine blk_drew ?_|refine blk_alloc ?_ _));refine blk_put (cs:=#[.string x546000_2,.int .i64 x546001_2]) ?_ 0 _ rfl;(with_reducible repeat (first|refine blk_drewN ?_ _|refine blk_drew ?_|refine blk_alloc ?_ _));refine blk_far ?_ NB545_563.out _;(with_reducible repeat (first|refine blk_drewN ?_ _|refine blk_drew ?_|refine blk_alloc ?_ _));refine blk_far ?_ NB545_563.out _;(with_reducible repeat (first|refine blk_drewN ?_ _|refine blk_drew ?_|refine blk_alloc ?_ _));refine blk_far ?_ NB545_563.out _;(with_reducible repeat (first|refine blk_drewN ?_ _|refine blk_drew ?_|refine blk_alloc ?_ _));exact BK545.out⟩
               have n1_:Aside0 ((((((w96.setCell ⟨gb563,0,none⟩ (.string t560)).setCell ⟨gb563,1,none⟩ (.int .i64 t561)).setCell ⟨gb563,2,none⟩ (.int .i64 t562)).setCell ⟨gb545,0,none⟩ (.string t560)).setCell ⟨gb545,1,none⟩ (.int .i64 t561)).heap[gb547]?=some (.cells #[.int .i64 ((rd_T90 l1 x7_2).f0),.int .i64 ((rd_T90 l1 x7_2).f1),.int .i64 ((rd_T90 l1 x7_2).f2)] 90 (0,0))):=⟨by (with_reducible repeat (first|refine blk_drewN ?_ _|refine blk_drew ?_|refine blk_alloc ?_ _));refine blk_far ?_ NB547_545.out _;(with_reducible repeat (first|refine blk_drewN ?_ _|refine blk_drew ?_|refine blk_alloc ?_ _));refine blk_far ?_ NB547_545.out _;(with_reducible repeat (first|refine blk_drewN ?_ _|refine blk_drew ?_|refine blk_alloc ?_ _));refine blk_far ?_ NB547_563.out _;(with_reducible repeat (first|refine blk_drewN ?_ _|refine blk_drew ?_|refine blk_alloc ?_ _));refine blk_far ?_ NB547_563.out _;(with_reducible repeat (first|refine blk_drewN ?_ _|refine blk_drew ?_|refine blk_alloc ?_ _));refine blk_far ?_ NB547_563.out _;(with_reducible repeat (first|refine blk_drewN ?_ _|refine blk_drew ?_|refine blk_alloc ?_ _));exact BK547.out⟩
               have n2_:Aside0 ((((((w96.setCell ⟨gb563,0,none⟩ (.string t560)).setCell ⟨gb563,1,none⟩ (.int .i64 t561)).setCell ⟨gb563,2,none⟩ (.int .i64 t562)).setCell ⟨gb545,0,none⟩ (.string t560)).setCell ⟨gb545,1,none⟩ (.int .i64 t561)).heap[gb563]?=some (.cells #[.string t560,.int .i64 t561,.int .i64 t562] 85 (0,0))):=⟨by (with_reducible repeat (first|refine blk_drewN ?_ _|refine blk_drew ?_|refine blk_alloc ?_ _));refine blk_far ?_ NB563_545.out _;(with_reducible repeat (first|refine blk_drewN ?_ _|refine blk_drew ?_|refine blk_alloc ?_ _));refine blk_far ?_ NB563_545.out _;(with_reducible repeat (first|refine blk_drewN ?_ _|refine blk_drew ?_|refine blk_alloc ?_ _));refine blk_put (cs:=#[.string t560,.int .i64 t561,.int .i64 0]) ?_ 2 _ rfl;(with_reducible repeat (first|refine blk_drewN ?_ _|refine blk_drew ?_|refine blk_alloc ?_ _));refine blk_put (cs:=#[.string t560,.int .i64 0,.int .i64 0]) ?_ 1 _ rfl;(with_reducible repeat (first|refine blk_drewN ?_ _|refine blk_drew ?_|refine blk_alloc ?_ _));refine blk_put (cs:=#[.string (⟨#[]⟩:ByteArray),.int .i64 0,.int .i64 0]) ?_ 0 _ rfl;(with_reducible repeat (first|refine blk_drewN ?_ _|refine blk_drew ?_|refine blk_alloc ?_ _));exact BK563.out⟩
               have n3_:Aside0 (IsS130 w (((((w96.setCell ⟨gb563,0,none⟩ (.string t560)).setCell ⟨gb563,1,none⟩ (.int .i64 t561)).setCell ⟨gb563,2,none⟩ (.int .i64 t562)).setCell ⟨gb545,0,none⟩ (.string t560)).setCell ⟨gb545,1,none⟩ (.int .i64 t561)) g542 x543000_2 x543001_2 x543002_2):=⟨by repeat (first|(with_reducible first|exact HI542.out|apply IsS130.alloc|apply IsS130.drewN|apply IsS130.drew|apply IsS130.set_0|apply IsS130.set_1|apply IsS130.set_2|refine IsS130.far ?_ NB542_545.out _|refine IsS130.far ?_ NB542_547.out _|refine IsS130.far ?_ NB542_563.out _)|exact HI542.out)⟩
               have n4_:Aside0 (Below w.heap.size w (((((w96.setCell ⟨gb563,0,none⟩ (.string t560)).setCell ⟨gb563,1,none⟩ (.int .i64 t561)).setCell ⟨gb563,2,none⟩ (.int .i64 t562)).setCell ⟨gb545,0,none⟩ (.string t560)).setCell ⟨gb545,1,none⟩ (.int .i64 t561))):=⟨by repeat (first|(with_reducible first|exact HB.out|apply below_alloc|apply pw_below_drewN|apply below_drew1|refine below_set ?_ (IsS130.ge HI542.out)|refine below_set ?_ GE545.out|refine below_set ?_ GE547.out|refine below_set ?_ GE563.out)|exact HB.out)⟩
               (try clear BK545)
               (try clear BK547)
               (try clear BK563)
               (try clear HI542)
               (try clear HB)
               generalize (((((w96.setCell ⟨gb563,0,none⟩ (.string t560)).setCell ⟨gb563,1,none⟩ (.int .i64 t561)).setCell ⟨gb563,2,none⟩ (.int .i64 t562)).setCell ⟨gb545,0,none⟩ (.string t560)).setCell ⟨gb545,1,none⟩ (.int .i64 t561))=w102 at n0_ n1_ n2_ n3_ n4_ ⊢
               have BK545:=n0_
               have BK547:=n1_
               have BK563:=n2_
               have HI542:=n3_
               have HB:=n4_
               clear n0_ n1_ n2_ n3_ n4_
               have n0_:=Aside0.mk (blk_drew BK545.out)
               have n1_:=Aside0.mk (blk_drew BK547.out)
               have n2_:=Aside0.mk (blk_drew BK563.out)
               have n3_:=Aside0.mk (IsS130.drew HI542.out)
               have n4_:=Aside0.mk (below_drew1 HB.out)
               clear BK545
               clear BK547
               clear BK563
               clear HI542
               clear HB
               have BK545:=n0_
               have BK547:=n1_
               have BK563:=n2_
               have HI542:=n3_
               have HB:=n4_
               clear n0_ n1_ n2_ n3_ n4_
               refine start_ (n:=7) (S:=fun w'=>w'.cell? ⟨gb547,0,none⟩=some (.int .i64 ((rd_T90 l1 x7_2).f0))∧w'.cell? ⟨gb547,1,none⟩=some (.int .i64 ((rd_T90 l1 x7_2).f1))∧w'.cell? ⟨gb547,2,none⟩=some (.int .i64 ((rd_T90 l1 x7_2).f2))∧w'.cell? ⟨gb563,0,none⟩=some (.string t560)∧w'.cell? ⟨gb563,1,none⟩=some (.int .i64 t561)∧w'.cell? ⟨gb563,2,none⟩=some (.int .i64 t562)) (ds:=[]) #[false,false,false,false,false,false,false] (by kernel_rfl) rfl rfl ⟨(blk_cell BK547.out 0).trans rfl,(blk_cell BK547.out 1).trans rfl,(blk_cell BK547.out 2).trans rfl,(blk_cell BK563.out 0).trans rfl,(blk_cell BK563.out 1).trans rfl,(blk_cell BK563.out 2).trans rfl⟩ (fun hHeld=>?_)
               generalize w102.drew=w103 at BK545 BK547 BK563 HI542 HB hHeld ⊢
               refine pure_ (i:=0) (N:=some 68) (v:=?_) (a':=?_) #[true,false,false,false,false,false,false] rfl rfl (by kernel_rfl) (fun _ _ _ h=>h) (Or.inl ⟨by rfl,?_⟩) ?_ ?_
               rotate_left
               ·
                intro w'
                go_simp
                with_reducible rfl
               rotate_left
               ·
                simp only [Act.put,List.setIfInBounds_toArray,List.set_cons_zero,List.set_cons_succ,i64_w,i32_w]
                rfl
               refine pure_ (i:=1) (N:=some 69) (v:=?_) (a':=?_) #[true,true,false,false,false,false,false] rfl rfl (by kernel_rfl) (fun _ _ _ h=>h) (Or.inl ⟨by rfl,?_⟩) ?_ ?_
               rotate_left
               ·
                intro w'
                go_simp
                with_reducible rfl
               rotate_left
               ·
                simp only [Act.put,List.setIfInBounds_toArray,List.set_cons_zero,List.set_cons_succ,i64_w,i32_w]
                rfl
               refine pure_ (i:=4) (N:=some 72) (v:=?_) (a':=?_) #[true,true,false,false,true,false,false] rfl rfl (by kernel_rfl) (fun _ _ _ h=>h) (Or.inl ⟨by rfl,?_⟩) ?_ ?_
               rotate_left
               ·
                intro w'
                go_simp
                with_reducible rfl
               rotate_left
               ·
                simp only [Act.put,List.setIfInBounds_toArray,List.set_cons_zero,List.set_cons_succ,i64_w,i32_w]
                rfl
               refine take_ (i:=2) (N:=some 70) (v:=?_) (a':=?_) #[true,true,true,false,true,false,false] rfl rfl (by kernel_rfl) (fun _ _ _ h=>h) (Or.inl ⟨by rfl,?_⟩) hHeld ?_ ?_
               rotate_left
               ·
                rintro w' ⟨s0,s1,s2,s3,s4,s5⟩
                go_simp
                with_reducible rfl
               rotate_left
               ·
                simp only [Act.put,List.setIfInBounds_toArray,List.set_cons_zero,List.set_cons_succ,i64_w,i32_w]
                rfl
               refine take_ (i:=5) (N:=some 73) (v:=?_) (a':=?_) #[true,true,true,false,true,true,false] rfl rfl (by kernel_rfl) (fun _ _ _ h=>h) (Or.inl ⟨by rfl,?_⟩) hHeld ?_ ?_
               rotate_left
               ·
                rintro w' ⟨s0,s1,s2,s3,s4,s5⟩
                go_simp
                with_reducible rfl
               rotate_left
               ·
                simp only [Act.put,List.setIfInBounds_toArray,List.set_cons_zero,List.set_cons_succ,i64_w,i32_w]
                rfl
               refine one_ (i:=3) (N:=some 71) #[true,true,true,true,true,true,false] rfl rfl (by kernel_rfl) (by decide) (fun K hK=>?_)
               refine goes_ Try.func70 (by kernel_rfl) rfl #[.pointer (some ⟨g542,0,none⟩),.int .i64 ((rd_T90 l1 x7_2).f1)] (by rfl) rfl rfl (by (try simp only [List.map_toArray,List.map_cons,List.map_nil]);first|done|rfl|(simp only [List.length_drop,List.length_take];rfl)) ?_
               with_reducible refine (prng_Gen_Below.calls kj19 g542 x543000_2 x543001_2 x543002_2 ((rd_T90 l1 x7_2).f1) t564 t565 t566 t567 w _ ?side1 ?side2 A85.out).mono ?_
               (case side1=>repeat (first|(with_reducible first|exact HI542.out|apply IsS130.alloc|apply IsS130.drewN|apply IsS130.drew|apply IsS130.set_0|apply IsS130.set_1|apply IsS130.set_2|refine IsS130.far ?_ NB542_545.out _|refine IsS130.far ?_ NB542_547.out _|refine IsS130.far ?_ NB542_563.out _)|exact HI542.out))
               (case side2=>repeat (first|(with_reducible first|exact HB.out|apply below_alloc|apply pw_below_drewN|apply below_drew1|refine below_set ?_ (IsS130.ge HI542.out)|refine below_set ?_ GE545.out|refine below_set ?_ GE547.out|refine below_set ?_ GE563.out)|exact HB.out))
               rintro e w104 ⟨rfl,hi,hb,hk⟩
               refine ⟨_,rfl,?_⟩
               have n0_:=Aside0.mk (KeepBut.blk hk (g':=gb545) (o:=.cells #[.string t560,.int .i64 t561] 83 (0,0)) (by (with_reducible repeat (first|refine blk_drewN ?_ _|refine blk_drew ?_|refine blk_alloc ?_ _));exact BK545.out) NB545_542.out (by simp))
               have n1_:=Aside0.mk (KeepBut.blk hk (g':=gb547) (o:=.cells #[.int .i64 ((rd_T90 l1 x7_2).f0),.int .i64 ((rd_T90 l1 x7_2).f1),.int .i64 ((rd_T90 l1 x7_2).f2)] 90 (0,0)) (by (with_reducible repeat (first|refine blk_drewN ?_ _|refine blk_drew ?_|refine blk_alloc ?_ _));exact BK547.out) NB547_542.out (by simp))
               have n2_:=Aside0.mk (KeepBut.blk hk (g':=gb563) (o:=.cells #[.string t560,.int .i64 t561,.int .i64 t562] 85 (0,0)) (by (with_reducible repeat (first|refine blk_drewN ?_ _|refine blk_drew ?_|refine blk_alloc ?_ _));exact BK563.out) NB563_542.out (by simp))
               have n3_:=Aside0.mk (hb)
               have n4_:=Aside0.mk (hi)
               clear BK545
               clear BK547
               clear BK563
               clear HB
               clear HI542
               have BK545:=n0_
               have BK547:=n1_
               have BK563:=n2_
               have HB:=n3_
               have HI542:=n4_
               clear n0_ n1_ n2_ n3_ n4_
               (try clear hb)
               (try clear hb2)
               (try clear hk)
               (try clear hi)
               refine hK.out _ _ ⟨(blk_cell BK547.out 0).trans rfl,(blk_cell BK547.out 1).trans rfl,(blk_cell BK547.out 2).trans rfl,(blk_cell BK563.out 0).trans rfl,(blk_cell BK563.out 1).trans rfl,(blk_cell BK563.out 2).trans rfl⟩ (fun hHeld=>?_)
               clear hK K
               refine norm_ (a':=?_) ?_ ?_
               rotate_left
               ·
                show Act.put _ (some 71) _=_
                simp only [Act.put,List.setIfInBounds_toArray,List.set_cons_zero,List.set_cons_succ,i64_w,i32_w]
                rfl
               refine pure_ (i:=6) (N:=some 74) (v:=?_) (a':=?_) #[true,true,true,true,true,true,true] rfl rfl (by kernel_rfl) (fun _ _ _ h=>h) (Or.inl ⟨by rfl,?_⟩) ?_ ?_
               rotate_left
               ·
                intro w'
                go_simp
                with_reducible rfl
               rotate_left
               ·
                simp only [Act.put,List.setIfInBounds_toArray,List.set_cons_zero,List.set_cons_succ,i64_w,i32_w]
                rfl
               refine done_ (by kernel_rfl) ?_
               try go_wp2
               have n0_:=Aside0.mk (blk_drew BK545.out)
               have n1_:=Aside0.mk (blk_drew BK547.out)
               have n2_:=Aside0.mk (blk_drew BK563.out)
               have n3_:=Aside0.mk (IsS130.drew HI542.out)
               have n4_:=Aside0.mk (below_drew1 HB.out)
               clear BK545
               clear BK547
               clear BK563
               clear HI542
               clear HB
               have BK545:=n0_
               have BK547:=n1_
               have BK563:=n2_
               have HI542:=n3_
               have HB:=n4_
               clear n0_ n1_ n2_ n3_ n4_
               refine start_ (n:=5) (S:=fun w'=>w'.cell? ⟨gb545,0,none⟩=some (.string t560)∧w'.cell? ⟨gb545,1,none⟩=some (.int .i64 t561)) (ds:=[]) #[false,false,false,false,false] (by kernel_rfl) rfl rfl ⟨(blk_cell BK545.out 0).trans rfl,(blk_cell BK545.out 1).trans rfl⟩ (fun hHeld=>?_)
               generalize w104.drew=w105 at BK545 BK547 BK563 HI542 HB hHeld ⊢
               refine pure_ (i:=0) (N:=some 104) (v:=?_) (a':=?_) #[true,false,false,false,false] rfl rfl (by kernel_rfl) (fun _ _ _ h=>h) (Or.inl ⟨by rfl,?_⟩) ?_ ?_
               rotate_left
               ·
                intro w'
                go_simp
                with_reducible rfl
               rotate_left
               ·
                simp only [Act.put,List.setIfInBounds_toArray,List.set_cons_zero,List.set_cons_succ,i64_w,i32_w]
                rfl
               refine pure_ (i:=2) (N:=some 106) (v:=?_) (a':=?_) #[true,false,true,false,false] rfl rfl (by kernel_rfl) (fun _ _ _ h=>h) (Or.inl ⟨by rfl,?_⟩) ?_ ?_
               rotate_left
               ·
                intro w'
                go_simp
                with_reducible rfl
               rotate_left
               ·
                simp only [Act.put,List.setIfInBounds_toArray,List.set_cons_zero,List.set_cons_succ,i64_w,i32_w]
                rfl
               refine take_ (i:=3) (N:=some 107) (v:=?_) (a':=?_) #[true,false,true,true,false] rfl rfl (by kernel_rfl) (fun _ _ _ h=>h) (Or.inl ⟨by rfl,?_⟩) hHeld ?_ ?_
               rotate_left
               ·
                rintro w' ⟨s0,s1⟩
                go_simp
                with_reducible rfl
               rotate_left
               ·
                simp only [Act.put,List.setIfInBounds_toArray,List.set_cons_zero,List.set_cons_succ,i64_w,i32_w]
                rfl
               refine one_ (i:=1) (N:=some 105) #[true,true,true,true,false] rfl rfl (by kernel_rfl) (by decide) (fun K hK=>?_)
               refine goes_ Try.func68 (by kernel_rfl) rfl #[.pointer (some ⟨g542,0,none⟩)] (by rfl) rfl rfl (by (try simp only [List.map_toArray,List.map_cons,List.map_nil]);first|done|rfl|(simp only [List.length_drop,List.length_take];rfl)) ?_
               with_reducible refine (prng_Gen_Used.calls g542 t565 t566 t567 t568 t569 t570 t571 w _ ?side1 ?side2 A87.out).mono ?_
               (case side1=>repeat (first|(with_reducible first|exact HI542.out|apply IsS130.alloc|apply IsS130.drewN|apply IsS130.drew|apply IsS130.set_0|apply IsS130.set_1|apply IsS130.set_2|refine IsS130.far ?_ NB542_545.out _|refine IsS130.far ?_ NB542_547.out _|refine IsS130.far ?_ NB542_563.out _)|exact HI542.out))
               (case side2=>repeat (first|(with_reducible first|exact HB.out|apply below_alloc|apply pw_below_drewN|apply below_drew1|refine below_set ?_ (IsS130.ge HI542.out)|refine below_set ?_ GE545.out|refine below_set ?_ GE547.out|refine below_set ?_ GE563.out)|exact HB.out))
               rintro e w106 ⟨rfl,hi,hb,hk⟩
               refine ⟨_,rfl,?_⟩
               have n0_:=Aside0.mk (KeepBut.blk hk (g':=gb545) (o:=.cells #[.string t560,.int .i64 t561] 83 (0,0)) (by (with_reducible repeat (first|refine blk_drewN ?_ _|refine blk_drew ?_|refine blk_alloc ?_ _));exact BK545.out) NB545_542.out (by simp))
               have n1_:=Aside0.mk (KeepBut.blk hk (g':=gb547) (o:=.cells #[.int .i64 ((rd_T90 l1 x7_2).f0),.int .i64 ((rd_T90 l1 x7_2).f1),.int .i64 ((rd_T90 l1 x7_2).f2)] 90 (0,0)) (by (with_reducible repeat (first|refine blk_drewN ?_ _|refine blk_drew ?_|refine blk_alloc ?_ _));exact BK547.out) NB547_542.out (by simp))
               have n2_:=Aside0.mk (KeepBut.blk hk (g':=gb563) (o:=.cells #[.string t560,.int .i64 t561,.int .i64 t562] 85 (0,0)) (by (with_reducible repeat (first|refine blk_drewN ?_ _|refine blk_drew ?_|refine blk_alloc ?_ _));exact BK563.out) NB563_542.out (by simp))
               have n3_:=Aside0.mk (hb)
               have n4_:=Aside0.mk (hi)
               clear BK545
               clear BK547
               clear BK563
               clear HB
               clear HI542
               have BK545:=n0_
               have BK547:=n1_
               have BK563:=n2_
               have HB:=n3_
               have HI542:=n4_
               clear n0_ n1_ n2_ n3_ n4_
               (try clear hb)
               (try clear hb2)
               (try clear hk)
               (try clear hi)
               refine hK.out _ _ ⟨(blk_cell BK545.out 0).trans rfl,(blk_cell BK545.out 1).trans rfl⟩ (fun hHeld=>?_)
               clear hK K
               refine norm_ (a':=?_) ?_ ?_
               rotate_left
               ·
                show Act.put _ (some 105) _=_
                simp only [Act.put,List.setIfInBounds_toArray,List.set_cons_zero,List.set_cons_succ,i64_w,i32_w]
                rfl
               refine pure_ (i:=4) (N:=some 108) (v:=?_) (a':=?_) #[true,true,true,true,true] rfl rfl (by kernel_rfl) (fun _ _ _ h=>h) (Or.inl ⟨by rfl,?_⟩) ?_ ?_
               rotate_left
               ·
                intro w'
                go_simp
                with_reducible rfl
               rotate_left
               ·
                simp only [Act.put,List.setIfInBounds_toArray,List.set_cons_zero,List.set_cons_succ,i64_w,i32_w]
                rfl
               refine done_ (by kernel_rfl) ?_
               try go_wp2
               go_roundg kj19
               case measure=>have:=HJ3.out;have:=HK2.out;have:=HJ19.out;omega
               case rel=>exact ⟨(wrap64 (x7_2+1)),(t569),(t570),(t571),(t560),(t561),(by first|rfl|(simp;done)|(simp [*];done)),H',⟨by have:=HJ3.out;have:=HK2.out;have:=HJ19.out;omega⟩,⟨by (with_reducible repeat (first|refine blk_drewN ?_ _|refine blk_drew ?_|refine blk_alloc ?_ _));exact BK545.out⟩,⟨by repeat (first|(with_reducible first|exact HI542.out|apply IsS130.alloc|apply IsS130.drewN|apply IsS130.drew|apply IsS130.set_0|apply IsS130.set_1|apply IsS130.set_2|refine IsS130.far ?_ NB542_545.out _|refine IsS130.far ?_ NB542_547.out _|refine IsS130.far ?_ NB542_563.out _)|exact HI542.out)⟩,⟨by repeat (first|(with_reducible first|exact HB.out|apply below_alloc|apply pw_below_drewN|apply below_drew1|refine below_set ?_ (IsS130.ge HI542.out)|refine below_set ?_ GE545.out|refine below_set ?_ GE547.out|refine below_set ?_ GE563.out)|exact HB.out)⟩⟩
              ·
               rw [if_neg c88] at H
               have c88b0:(t568 == t561)=false:=beq_eq_false_iff_ne.mpr c88
               have c88b1:(t568 != t561)=true:=bne_iff_ne.mpr c88
               exact absurd (Option.some.inj H) (by simp)
             ·
              rw [if_neg c86] at H
              have c86b0:(t564 == t562)=false:=beq_eq_false_iff_ne.mpr c86
              have c86b1:(t564 != t562)=true:=bne_iff_ne.mpr c86
              exact absurd (Option.some.inj H) (by simp)
            ·
             rw [if_neg c83] at H
             have c83b0:(((rd_T90 l1 x7_2).f0) == 1)=false:=beq_eq_false_iff_ne.mpr c83
             have c83b1:(((rd_T90 l1 x7_2).f0) != 1)=true:=bne_iff_ne.mpr c83
             by_cases c141:((rd_T90 l1 x7_2).f0)=2
             ·
              rw [if_pos c141] at H
              have c141b0:(((rd_T90 l1 x7_2).f0) == 2)=true:=beq_iff_eq.mpr c141
              have c141b1:(((rd_T90 l1 x7_2).f0) != 2)=false:=bne_eq_false_iff_eq.mpr c141
              clear c141
              have HC142:=Aside0.mk H
              clear H
              have p546:0≤(x7_2:Int):=of_decide_eq_true (by first|(with_reducible assumption)|assumption)
              have q546:x7_2 < (l1.length:Int):=of_decide_eq_true (by first|(with_reducible assumption)|assumption)
              obtain ⟨ad546,e546,hx546_0,hx546_1,hx546_2⟩:=at_T90 HR1.out x7_2 p546 q546
              cases e546
              replace hx546_0:=(HB.out.cell (World.block_lt_of_cell? w _ hx546_0)).trans hx546_0
              replace hx546_1:=(HB.out.cell (World.block_lt_of_cell? w _ hx546_1)).trans hx546_1
              replace hx546_2:=(HB.out.cell (World.block_lt_of_cell? w _ hx546_2)).trans hx546_2
              replace p546:=eq_true p546
              replace q546:=eq_true q546
              go_upto_region 21 with (first|((with_reducible refine gate_dst (N:=8) rfl ?_);(try (refine gate_guard (by rfl) ?_;dsimp only));refine box_event ?hg (N:=8) ?hd (cs:=#[.int .i64 0,.int .i64 0,.int .i64 0]) (t:=90) ?hr ?_;(case hd=>rfl);(case hg=>rfl);(case hr=>first|(go_simp;done)|(go_simp;rfl));intro gb547 hg w143 hbox hb;have n0_:=Aside0.mk (blk_below (g:=gb545) (o:=.cells #[.string x546000_2,.int .i64 x546001_2] 83 (0,0)) (by (with_reducible repeat (first|refine blk_drewN ?_ _|refine blk_drew ?_|refine blk_alloc ?_ _));exact BK545.out) hb);have n1_:=Aside0.mk (IsS130.below (by repeat (first|(with_reducible first|exact HI542.out|apply IsS130.alloc|apply IsS130.drewN|apply IsS130.drew|apply IsS130.set_0|apply IsS130.set_1|apply IsS130.set_2|refine IsS130.far ?_ NB542_545.out _)|exact HI542.out)) hb);have n2_:=Aside0.mk (below_step (by repeat (first|(with_reducible first|exact HB.out|apply below_alloc|apply pw_below_drewN|apply below_drew1|refine below_set ?_ (IsS130.ge HI542.out)|refine below_set ?_ GE545.out)|exact HB.out)) hb);have n3_:=Aside0.mk (hbox);have n4_:=Aside0.mk ((by rw [hg];exact (below_size (by repeat (first|(with_reducible first|exact HB.out|apply below_alloc|apply pw_below_drewN|apply below_drew1|refine below_set ?_ (IsS130.ge HI542.out)|refine below_set ?_ GE545.out)|exact HB.out))):w.heap.size≤gb547));have n5_:=Aside0.mk ((by rw [hg];exact (below_size (by repeat (first|(with_reducible first|exact HB.out|apply below_alloc|apply pw_below_drewN|apply below_drew1|refine below_set ?_ (IsS130.ge HI542.out)|refine below_set ?_ GE545.out)|exact HB.out))):w.heap.size≤gb547));have n6_:=Aside0.mk ((by rw [hg];exact Nat.ne_of_lt (blk_lt (g:=gb545) (o:=.cells #[.string x546000_2,.int .i64 x546001_2] 83 (0,0)) (by (with_reducible repeat (first|refine blk_drewN ?_ _|refine blk_drew ?_|refine blk_alloc ?_ _));exact BK545.out)):gb545≠gb547));have n7_:=Aside0.mk ((by rw [hg];exact Nat.ne_of_gt (blk_lt (g:=gb545) (o:=.cells #[.string x546000_2,.int .i64 x546001_2] 83 (0,0)) (by (with_reducible repeat (first|refine blk_drewN ?_ _|refine blk_drew ?_|refine blk_alloc ?_ _));exact BK545.out)):gb547≠gb545));have n8_:=Aside0.mk ((by rw [hg];exact Nat.ne_of_lt (IsS130.lt (show IsS130 w _ g542 x543000_2 x543001_2 x543002_2 from by repeat (first|(with_reducible first|exact HI542.out|apply IsS130.alloc|apply IsS130.drewN|apply IsS130.drew|apply IsS130.set_0|apply IsS130.set_1|apply IsS130.set_2|refine IsS130.far ?_ NB542_545.out _)|exact HI542.out))):g542≠gb547));have n9_:=Aside0.mk ((by rw [hg];exact Nat.ne_of_gt (IsS130.lt (show IsS130 w _ g542 x543000_2 x543001_2 x543002_2 from by repeat (first|(with_reducible first|exact HI542.out|apply IsS130.alloc|apply IsS130.drewN|apply IsS130.drew|apply IsS130.set_0|apply IsS130.set_1|apply IsS130.set_2|refine IsS130.far ?_ NB542_545.out _)|exact HI542.out))):gb547≠g542));clear BK545;clear HI542;clear HB;have BK545:=n0_;have HI542:=n1_;have HB:=n2_;have BK547:=n3_;have GW547:=n4_;have GE547:=n5_;have NB545_547:=n6_;have NB547_545:=n7_;have NB542_547:=n8_;have NB547_542:=n9_;clear n0_ n1_ n2_ n3_ n4_ n5_ n6_ n7_ n8_ n9_;clear hb hbox hg;have hnb144:=NB547_545.out;have hnc144:=NB545_547.out;have hnb145:=NB547_542.out;have hnc145:=NB542_547.out;have hcz146_0:w143.cell? ⟨gb547,0,none⟩=some (.int .i64 0):=(blk_cell BK547.out 0).trans rfl;have hcz146_1:w143.cell? ⟨gb547,1,none⟩=some (.int .i64 0):=(blk_cell BK547.out 1).trans rfl;have hcz146_2:w143.cell? ⟨gb547,2,none⟩=some (.int .i64 0):=(blk_cell BK547.out 2).trans rfl;have hfz146_0:=blk_frozen BK547.out 0;have hfz146_1:=blk_frozen BK547.out 1;have hfz146_2:=blk_frozen BK547.out 2))
              (try simp only [Act.put,List.setIfInBounds_toArray,List.set_cons_zero,List.set_cons_succ])
              go_cut [84] (fun v84 wc=>∃ (kq:Nat) (x84_141:Bool),v84=.bool x84_141∧Aside0 (mosaiclaw04_PrngDraws.j3 kq l1 x7_2 x84_141 x543000_2 x543001_2 x543002_2 x546000_2 x546001_2 ((rd_T90 l1 x7_2).f0) ((rd_T90 l1 x7_2).f1) ((rd_T90 l1 x7_2).f2)=some true)∧Aside0 (kq≤kj19)∧Aside0 (wc.heap[gb545]?=some (.cells #[.string x546000_2,.int .i64 x546001_2] 83 (0,0)))∧Aside0 (wc.heap[gb547]?=some (.cells #[.int .i64 ((rd_T90 l1 x7_2).f0),.int .i64 ((rd_T90 l1 x7_2).f1),.int .i64 ((rd_T90 l1 x7_2).f2)] 90 (0,0)))∧Aside0 (IsS130 w wc g542 x543000_2 x543001_2 x543002_2)∧Aside0 (Below w.heap.size w wc))
              case first =>
               have H:=HC142.out
               clear HC142
               by_cases c147:((rd_T90 l1 x7_2).f1) > 200
               ·
                rw [if_pos c147] at H
                have c147b0:decide (200 < ((rd_T90 l1 x7_2).f1))=true:=decide_eq_true c147
                clear c147
                (first|rw [c147b0]|(simp only [i64_w,i32_w];rw [c147b0])|skip)
                have H':=Aside0.mk H
                clear H
                have hnb148:=NB547_545.out
                have hnc148:=NB545_547.out
                have hnb149:=NB547_542.out
                have hnc149:=NB542_547.out
                have hcz150_0:w143.cell? ⟨gb547,0,none⟩=some (.int .i64 0):=(blk_cell BK547.out 0).trans rfl
                have hcz150_1:w143.cell? ⟨gb547,1,none⟩=some (.int .i64 0):=(blk_cell BK547.out 1).trans rfl
                have hcz150_2:w143.cell? ⟨gb547,2,none⟩=some (.int .i64 0):=(blk_cell BK547.out 2).trans rfl
                have hfz150_0:=blk_frozen BK547.out 0
                have hfz150_1:=blk_frozen BK547.out 1
                have hfz150_2:=blk_frozen BK547.out 2
                go_wp2
                go_meet
                case rel=>exact ⟨_,(decide (((rd_T90 l1 x7_2).f1)≤4096)),(by first|rfl|(simp;done)|(simp [*];done)),H',⟨by have:=HJ3.out;have:=HK2.out;have:=HJ19.out;first|omega|exact Nat.le_refl _⟩,⟨by (with_reducible repeat (first|refine blk_drewN ?_ _|refine blk_drew ?_|refine blk_alloc ?_ _));refine blk_far ?_ NB545_547.out _;(with_reducible repeat (first|refine blk_drewN ?_ _|refine blk_drew ?_|refine blk_alloc ?_ _));refine blk_far ?_ NB545_547.out _;(with_reducible repeat (first|refine blk_drewN ?_ _|refine blk_drew ?_|refine blk_alloc ?_ _));refine blk_far ?_ NB545_547.out _;(with_reducible repeat (first|refine blk_drewN ?_ _|refine blk_drew ?_|refine blk_alloc ?_ _));exact BK545.out⟩,⟨by (with_reducible repeat (first|refine blk_drewN ?_ _|refine blk_drew ?_|refine blk_alloc ?_ _));refine blk_put (cs:=#[.int .i64 ((rd_T90 l1 x7_2).f0),.int .i64 ((rd_T90 l1 x7_2).f1),.int .i64 0]) ?_ 2 _ rfl;(with_reducible repeat (first|refine blk_drewN ?_ _|refine blk_drew ?_|refine blk_alloc ?_ _));refine blk_put (cs:=#[.int .i64 ((rd_T90 l1 x7_2).f0),.int .i64 0,.int .i64 0]) ?_ 1 _ rfl;(with_reducible repeat (first|refine blk_drewN ?_ _|refine blk_drew ?_|refine blk_alloc ?_ _));refine blk_put (cs:=#[.int .i64 0,.int .i64 0,.int .i64 0]) ?_ 0 _ rfl;(with_reducible repeat (first|refine blk_drewN ?_ _|refine blk_drew ?_|refine blk_alloc ?_ _));exact BK547.out⟩,⟨by repeat (first|(with_reducible first|exact HI542.out|apply IsS130.alloc|apply IsS130.drewN|apply IsS130.drew|apply IsS130.set_0|apply IsS130.set_1|apply IsS130.set_2|refine IsS130.far ?_ NB542_545.out _|refine IsS130.far ?_ NB542_547.out _)|exact HI542.out)⟩,⟨by repeat (first|(with_reducible first|exact HB.out|apply below_alloc|apply pw_below_drewN|apply below_drew1|refine below_set ?_ (IsS130.ge HI542.out)|refine below_set ?_ GE545.out|refine below_set ?_ GE547.out)|exact HB.out)⟩⟩
               ·
                rw [if_neg c147] at H
                have c147b0:decide (200 < ((rd_T90 l1 x7_2).f1))=false:=decide_eq_false c147
                clear c147
                (first|rw [c147b0]|(simp only [i64_w,i32_w];rw [c147b0])|skip)
                have H':=Aside0.mk H
                clear H
                have hnb151:=NB547_545.out
                have hnc151:=NB545_547.out
                have hnb152:=NB547_542.out
                have hnc152:=NB542_547.out
                have hcz153_0:w143.cell? ⟨gb547,0,none⟩=some (.int .i64 0):=(blk_cell BK547.out 0).trans rfl
                have hcz153_1:w143.cell? ⟨gb547,1,none⟩=some (.int .i64 0):=(blk_cell BK547.out 1).trans rfl
                have hcz153_2:w143.cell? ⟨gb547,2,none⟩=some (.int .i64 0):=(blk_cell BK547.out 2).trans rfl
                have hfz153_0:=blk_frozen BK547.out 0
                have hfz153_1:=blk_frozen BK547.out 1
                have hfz153_2:=blk_frozen BK547.out 2
                go_wp2
                go_meet
                case rel=>exact ⟨_,(false),(by first|rfl|(simp;done)|(simp [*];done)),H',⟨by have:=HJ3.out;have:=HK2.out;have:=HJ19.out;first|omega|exact Nat.le_refl _⟩,⟨by (with_reducible repeat (first|refine blk_drewN ?_ _|refine blk_drew ?_|refine blk_alloc ?_ _));refine blk_far ?_ NB545_547.out _;(with_reducible repeat (first|refine blk_drewN ?_ _|refine blk_drew ?_|refine blk_alloc ?_ _));refine blk_far ?_ NB545_547.out _;(with_reducible repeat (first|refine blk_drewN ?_ _|refine blk_drew ?_|refine blk_alloc ?_ _));refine blk_far ?_ NB545_547.out _;(with_reducible repeat (first|refine blk_drewN ?_ _|refine blk_drew ?_|refine blk_alloc ?_ _));exact BK545.out⟩,⟨by (with_reducible repeat (first|refine blk_drewN ?_ _|refine blk_drew ?_|refine blk_alloc ?_ _));refine blk_put (cs:=#[.int .i64 ((rd_T90 l1 x7_2).f0),.int .i64 ((rd_T90 l1 x7_2).f1),.int .i64 0]) ?_ 2 _ rfl;(with_reducible repeat (first|refine blk_drewN ?_ _|refine blk_drew ?_|refine blk_alloc ?_ _));refine blk_put (cs:=#[.int .i64 ((rd_T90 l1 x7_2).f0),.int .i64 0,.int .i64 0]) ?_ 1 _ rfl;(with_reducible repeat (first|refine blk_drewN ?_ _|refine blk_drew ?_|refine blk_alloc ?_ _));refine blk_put (cs:=#[.int .i64 0,.int .i64 0,.int .i64 0]) ?_ 0 _ rfl;(with_reducible repeat (first|refine blk_drewN ?_ _|refine blk_drew ?_|refine blk_alloc ?_ _));exact BK547.out⟩,⟨by repeat (first|(with_reducible first|exact HI542.out|apply IsS130.alloc|apply IsS130.drewN|apply IsS130.drew|apply IsS130.set_0|apply IsS130.set_1|apply IsS130.set_2|refine IsS130.far ?_ NB542_545.out _|refine IsS130.far ?_ NB542_547.out _)|exact HI542.out)⟩,⟨by repeat (first|(with_reducible first|exact HB.out|apply below_alloc|apply pw_below_drewN|apply below_drew1|refine below_set ?_ (IsS130.ge HI542.out)|refine below_set ?_ GE545.out|refine below_set ?_ GE547.out)|exact HB.out)⟩⟩
              case rest =>
               clear HC142
               try clear c1
               try clear p2
               try clear p5
               try clear q5
               try clear hx5
               try clear c6
               try clear p6
               try clear c7
               try clear c8
               try clear c10
               try clear c11
               try clear c12
               try clear c13
               try clear c14
               try clear c15
               try clear p54
               try clear q54
               try clear hx54
               try clear p64
               try clear c68
               try clear c69
               try clear c70
               try clear c83
               try clear c83b0
               try clear c83b1
               try clear c86
               try clear c86b0
               try clear c86b1
               try clear c88
               try clear c88b0
               try clear c88b1
               try clear c108
               try clear c109
               try clear c111
               try clear c115
               try clear c116
               try clear c117
               try clear c126
               try clear c127
               try clear c129
               try clear c133
               try clear c134
               try clear c135
               try clear c141
               try clear c141b0
               try clear c141b1
               try clear c144
               try clear c145
               try clear c147
               try clear c147b0
               try clear c148
               try clear c149
               try clear c151
               try clear c152
               try clear hcz110_0
               try clear hcz110_1
               try clear hcz110_2
               try clear hcz112_0
               try clear hcz112_1
               try clear hcz118_0
               try clear hcz118_1
               try clear hcz118_2
               try clear hcz119_0
               try clear hcz119_1
               try clear hcz128_0
               try clear hcz128_1
               try clear hcz128_2
               try clear hcz130_0
               try clear hcz130_1
               try clear hcz136_0
               try clear hcz136_1
               try clear hcz136_2
               try clear hcz137_0
               try clear hcz137_1
               try clear hcz146_0
               try clear hcz146_1
               try clear hcz146_2
               try clear hcz150_0
               try clear hcz150_1
               try clear hcz150_2
               try clear hcz153_0
               try clear hcz153_1
               try clear hcz153_2
               try clear hfz110_0
               try clear hfz110_1
               try clear hfz110_2
               try clear hfz112_0
               try clear hfz112_1
               try clear hfz118_0
               try clear hfz118_1
               try clear hfz118_2
               try clear hfz119_0
               try clear hfz119_1
               try clear hfz128_0
               try clear hfz128_1
               try clear hfz128_2
               try clear hfz130_0
               try clear hfz130_1
               try clear hfz136_0
               try clear hfz136_1
               try clear hfz136_2
               try clear hfz137_0
               try clear hfz137_1
               try clear hfz146_0
               try clear hfz146_1
               try clear hfz146_2
               try clear hfz150_0
               try clear hfz150_1
               try clear hfz150_2
               try clear hfz153_0
               try clear hfz153_1
               try clear hfz153_2
               try clear hx546_0
               try clear hx546_1
               try clear hx546_2
               try clear p546
               try clear q546
               obtain ⟨kq,x84_141,rfl,HA,HJ141,BK545,BK547,HI542,HB⟩:=hcut
               cases kq with
               | zero=>exact absurd HA.out (by simp [mosaiclaw04_PrngDraws.j3])
               | succ kj141 =>
                have H:=HA.out
                clear HA
                simp only [mosaiclaw04_PrngDraws.j3] at H
                have HC154:=Aside0.mk H
                clear H
                go_upto_if 84 with (fail)
                go_cut [] (fun wc=>∃ (kq:Nat) (x548001_153:Int),Aside0 (mosaiclaw04_PrngDraws.j4 kq l1 x7_2 x543000_2 x543001_2 x543002_2 x546000_2 x546001_2 ((rd_T90 l1 x7_2).f0) x548001_153 ((rd_T90 l1 x7_2).f2)=some true)∧Aside0 (kq≤kj141)∧Aside0 (wc.heap[gb545]?=some (.cells #[.string x546000_2,.int .i64 x546001_2] 83 (0,0)))∧Aside0 (wc.heap[gb547]?=some (.cells #[.int .i64 ((rd_T90 l1 x7_2).f0),.int .i64 x548001_153,.int .i64 ((rd_T90 l1 x7_2).f2)] 90 (0,0)))∧Aside0 (IsS130 w wc g542 x543000_2 x543001_2 x543002_2)∧Aside0 (Below w.heap.size w wc))
                case first =>
                 have H:=HC154.out
                 clear HC154
                 by_cases c155:x84_141=true
                 ·
                  subst c155
                  have H1:(mosaiclaw04_PrngDraws.j4 kj141 l1 x7_2 x543000_2 x543001_2 x543002_2 x546000_2 x546001_2 ((rd_T90 l1 x7_2).f0) 200 ((rd_T90 l1 x7_2).f2))=some true:=by rw [if_pos rfl] at H;exact H
                  clear H
                  have H:=H1
                  clear H1
                  have H':=Aside0.mk H
                  clear H
                  have hnb156:=NB547_545.out
                  have hnc156:=NB545_547.out
                  have hnb157:=NB547_542.out
                  have hnc157:=NB542_547.out
                  have hcz158_0:wc.cell? ⟨gb547,0,none⟩=some (.int .i64 ((rd_T90 l1 x7_2).f0)):=(blk_cell BK547.out 0).trans rfl
                  have hcz158_1:wc.cell? ⟨gb547,1,none⟩=some (.int .i64 ((rd_T90 l1 x7_2).f1)):=(blk_cell BK547.out 1).trans rfl
                  have hcz158_2:wc.cell? ⟨gb547,2,none⟩=some (.int .i64 ((rd_T90 l1 x7_2).f2)):=(blk_cell BK547.out 2).trans rfl
                  have hfz158_0:=blk_frozen BK547.out 0
                  have hfz158_1:=blk_frozen BK547.out 1
                  have hfz158_2:=blk_frozen BK547.out 2
                  go_wp2
                  go_meet
                  case rel=>exact ⟨_,(200),H',⟨by have:=HJ3.out;have:=HK2.out;have:=HJ19.out;have:=HJ141.out;first|omega|exact Nat.le_refl _⟩,⟨by (with_reducible repeat (first|refine blk_drewN ?_ _|refine blk_drew ?_|refine blk_alloc ?_ _));refine blk_far ?_ NB545_547.out _;(with_reducible repeat (first|refine blk_drewN ?_ _|refine blk_drew ?_|refine blk_alloc ?_ _));exact BK545.out⟩,⟨by (with_reducible repeat (first|refine blk_drewN ?_ _|refine blk_drew ?_|refine blk_alloc ?_ _));refine blk_put (cs:=#[.int .i64 ((rd_T90 l1 x7_2).f0),.int .i64 ((rd_T90 l1 x7_2).f1),.int .i64 ((rd_T90 l1 x7_2).f2)]) ?_ 1 _ rfl;(with_reducible repeat (first|refine blk_drewN ?_ _|refine blk_drew ?_|refine blk_alloc ?_ _));exact BK547.out⟩,⟨by repeat (first|(with_reducible first|exact HI542.out|apply IsS130.alloc|apply IsS130.drewN|apply IsS130.drew|apply IsS130.set_0|apply IsS130.set_1|apply IsS130.set_2|refine IsS130.far ?_ NB542_545.out _|refine IsS130.far ?_ NB542_547.out _)|exact HI542.out)⟩,⟨by repeat (first|(with_reducible first|exact HB.out|apply below_alloc|apply pw_below_drewN|apply below_drew1|refine below_set ?_ (IsS130.ge HI542.out)|refine below_set ?_ GE545.out|refine below_set ?_ GE547.out)|exact HB.out)⟩⟩
                 ·
                  replace c155:=Bool.eq_false_iff.mpr c155
                  subst c155
                  have H1:(mosaiclaw04_PrngDraws.j4 kj141 l1 x7_2 x543000_2 x543001_2 x543002_2 x546000_2 x546001_2 ((rd_T90 l1 x7_2).f0) ((rd_T90 l1 x7_2).f1) ((rd_T90 l1 x7_2).f2))=some true:=by rw [if_neg (show ¬ (false=true) by decide)] at H;exact H
                  clear H
                  have H:=H1
                  clear H1
                  have H':=Aside0.mk H
                  clear H
                  go_wp2
                  go_meet
                  case rel=>exact ⟨_,(((rd_T90 l1 x7_2).f1)),H',⟨by have:=HJ3.out;have:=HK2.out;have:=HJ19.out;have:=HJ141.out;first|omega|exact Nat.le_refl _⟩,⟨by (with_reducible repeat (first|refine blk_drewN ?_ _|refine blk_drew ?_|refine blk_alloc ?_ _));exact BK545.out⟩,⟨by (with_reducible repeat (first|refine blk_drewN ?_ _|refine blk_drew ?_|refine blk_alloc ?_ _));exact BK547.out⟩,⟨by repeat (first|(with_reducible first|exact HI542.out|apply IsS130.alloc|apply IsS130.drewN|apply IsS130.drew|apply IsS130.set_0|apply IsS130.set_1|apply IsS130.set_2|refine IsS130.far ?_ NB542_545.out _|refine IsS130.far ?_ NB542_547.out _)|exact HI542.out)⟩,⟨by repeat (first|(with_reducible first|exact HB.out|apply below_alloc|apply pw_below_drewN|apply below_drew1|refine below_set ?_ (IsS130.ge HI542.out)|refine below_set ?_ GE545.out|refine below_set ?_ GE547.out)|exact HB.out)⟩⟩
                case rest =>
                 clear HC154
                 try clear c1
                 try clear p2
                 try clear p5
                 try clear q5
                 try clear hx5
                 try clear c6
                 try clear p6
                 try clear c7
                 try clear c8
                 try clear c10
                 try clear c11
                 try clear c12
                 try clear c13
                 try clear c14
                 try clear c15
                 try clear p54
                 try clear q54
                 try clear hx54
                 try clear p64
                 try clear c68
                 try clear c69
                 try clear c70
                 try clear c83
                 try clear c83b0
                 try clear c83b1
                 try clear c86
                 try clear c86b0
                 try clear c86b1
                 try clear c88
                 try clear c88b0
                 try clear c88b1
                 try clear c108
                 try clear c109
                 try clear c111
                 try clear c115
                 try clear c116
                 try clear c117
                 try clear c126
                 try clear c127
                 try clear c129
                 try clear c133
                 try clear c134
                 try clear c135
                 try clear c141
                 try clear c141b0
                 try clear c141b1
                 try clear c144
                 try clear c145
                 try clear c147
                 try clear c147b0
                 try clear c148
                 try clear c149
                 try clear c151
                 try clear c152
                 try clear c155
                 try clear c156
                 try clear c157
                 try clear hcz110_0
                 try clear hcz110_1
                 try clear hcz110_2
                 try clear hcz112_0
                 try clear hcz112_1
                 try clear hcz118_0
                 try clear hcz118_1
                 try clear hcz118_2
                 try clear hcz119_0
                 try clear hcz119_1
                 try clear hcz128_0
                 try clear hcz128_1
                 try clear hcz128_2
                 try clear hcz130_0
                 try clear hcz130_1
                 try clear hcz136_0
                 try clear hcz136_1
                 try clear hcz136_2
                 try clear hcz137_0
                 try clear hcz137_1
                 try clear hcz146_0
                 try clear hcz146_1
                 try clear hcz146_2
                 try clear hcz150_0
                 try clear hcz150_1
                 try clear hcz150_2
                 try clear hcz153_0
                 try clear hcz153_1
                 try clear hcz153_2
                 try clear hcz158_0
                 try clear hcz158_1
                 try clear hcz158_2
                 try clear hfz110_0
                 try clear hfz110_1
                 try clear hfz110_2
                 try clear hfz112_0
                 try clear hfz112_1
                 try clear hfz118_0
                 try clear hfz118_1
                 try clear hfz118_2
                 try clear hfz119_0
                 try clear hfz119_1
                 try clear hfz128_0
                 try clear hfz128_1
                 try clear hfz128_2
                 try clear hfz130_0
                 try clear hfz130_1
                 try clear hfz136_0
                 try clear hfz136_1
                 try clear hfz136_2
                 try clear hfz137_0
                 try clear hfz137_1
                 try clear hfz146_0
                 try clear hfz146_1
                 try clear hfz146_2
                 try clear hfz150_0
                 try clear hfz150_1
                 try clear hfz150_2
                 try clear hfz153_0
                 try clear hfz153_1
                 try clear hfz153_2
                 try clear hfz158_0
                 try clear hfz158_1
                 try clear hfz158_2
                 try clear hx546_0
                 try clear hx546_1
                 try clear hx546_2
                 try clear p2
                 try clear p5
                 try clear p54
                 try clear p546
                 try clear p6
                 try clear p64
                 try clear q5
                 try clear q54
                 try clear q546
                 obtain ⟨kq,x548001_153,HA,HJ153,BK545,BK547,HI542,HB⟩:=hcut
                 cases kq with
                 | zero=>exact absurd HA.out (by simp [mosaiclaw04_PrngDraws.j4])
                 | succ kj153 =>
                  have H:=HA.out
                  clear HA
                  simp only [mosaiclaw04_PrngDraws.j4] at H
                  replace H:=Option.bind_eq_some_iff.mp H
                  obtain ⟨⟨t572,t573,t574⟩,A1590,H⟩:=H
                  replace H:((prng_Gen_Pick.f kj153 x543000_2 x543001_2 x543002_2 x548001_153 ((rd_T90 l1 x7_2).f2)).bind fun bt578=>((mosaicref04_Same.f kj153 bt578.1 t574).bind fun t584=>(if t584=true then ((prng_Gen_Used.f bt578.2.1 bt578.2.2.1 bt578.2.2.2).bind fun bt585=>(if bt585.1=t573 then (mosaiclaw04_PrngDraws.l0 kj153 l1 (wrap64 (x7_2+1)) bt585.2.1 bt585.2.2.1 bt585.2.2.2 t572 t573) else (some false))) else (some false))))=some true:=H
                  have A159:=Aside0.mk A1590
                  clear A1590
                  replace H:=Option.bind_eq_some_iff.mp H
                  obtain ⟨⟨t578,t581,t582,t583⟩,A1600,H⟩:=H
                  replace H:((mosaicref04_Same.f kj153 t578 t574).bind fun t584=>(if t584=true then ((prng_Gen_Used.f t581 t582 t583).bind fun bt585=>(if bt585.1=t573 then (mosaiclaw04_PrngDraws.l0 kj153 l1 (wrap64 (x7_2+1)) bt585.2.1 bt585.2.2.1 bt585.2.2.2 t572 t573) else (some false))) else (some false)))=some true:=H
                  have A160:=Aside0.mk A1600
                  clear A1600
                  replace H:=Option.bind_eq_some_iff.mp H
                  obtain ⟨t584,A1610,H⟩:=H
                  replace H:(if t584=true then ((prng_Gen_Used.f t581 t582 t583).bind fun bt585=>(if bt585.1=t573 then (mosaiclaw04_PrngDraws.l0 kj153 l1 (wrap64 (x7_2+1)) bt585.2.1 bt585.2.2.1 bt585.2.2.2 t572 t573) else (some false))) else (some false))=some true:=H
                  have A161:=Aside0.mk A1610
                  clear A1610
                  by_cases c162:t584=true
                  ·
                   subst c162
                   have H1:((prng_Gen_Used.f t581 t582 t583).bind fun bt585=>(if bt585.1=t573 then (mosaiclaw04_PrngDraws.l0 kj153 l1 (wrap64 (x7_2+1)) bt585.2.1 bt585.2.2.1 bt585.2.2.2 t572 t573) else (some false)))=some true:=by rw [if_pos rfl] at H;exact H
                   clear H
                   have H:=H1
                   clear H1
                   replace H:=Option.bind_eq_some_iff.mp H
                   obtain ⟨⟨t585,t586,t587,t588⟩,A1630,H⟩:=H
                   replace H:(if t585=t573 then (mosaiclaw04_PrngDraws.l0 kj153 l1 (wrap64 (x7_2+1)) t586 t587 t588 t572 t573) else (some false))=some true:=H
                   have A163:=Aside0.mk A1630
                   clear A1630
                   by_cases c164:t585=t573
                   ·
                    rw [if_pos c164] at H
                    have c164b0:(t585 == t573)=true:=beq_iff_eq.mpr c164
                    have c164b1:(t585 != t573)=false:=bne_eq_false_iff_eq.mpr c164
                    clear c164
                    have H':=Aside0.mk H
                    clear H
                    have hnb165:=NB545_547.out
                    have hnc165:=NB547_545.out
                    have hnb166:=NB545_542.out
                    have hnc166:=NB542_545.out
                    have hcz167_0:wc.cell? ⟨gb545,0,none⟩=some (.string x546000_2):=(blk_cell BK545.out 0).trans rfl
                    have hcz167_1:wc.cell? ⟨gb545,1,none⟩=some (.int .i64 x546001_2):=(blk_cell BK545.out 1).trans rfl
                    have hfz167_0:=blk_frozen BK545.out 0
                    have hfz167_1:=blk_frozen BK545.out 1
                    have hnb168:=NB547_542.out
                    have hnc168:=NB542_547.out
                    have hcz169_0:wc.cell? ⟨gb547,0,none⟩=some (.int .i64 ((rd_T90 l1 x7_2).f0)):=(blk_cell BK547.out 0).trans rfl
                    have hcz169_1:wc.cell? ⟨gb547,1,none⟩=some (.int .i64 x548001_153):=(blk_cell BK547.out 1).trans rfl
                    have hcz169_2:wc.cell? ⟨gb547,2,none⟩=some (.int .i64 ((rd_T90 l1 x7_2).f2)):=(blk_cell BK547.out 2).trans rfl
                    have hfz169_0:=blk_frozen BK547.out 0
                    have hfz169_1:=blk_frozen BK547.out 1
                    have hfz169_2:=blk_frozen BK547.out 2
                    try go_wp2_with (first|((with_reducible refine gate_callee (f:=71) rfl ?_);refine goesL_ (some 91) rfl rfl Try.func71 (by kernel_rfl) rfl #[.agg #[.string x546000_2,.int .i64 x546001_2],.int .i64 x548001_153,.int .i64 ((rd_T90 l1 x7_2).f2)] rfl (by (try simp only [List.map_toArray,List.map_cons,List.map_nil]);first|done|rfl|(simp only [List.length_drop,List.length_take];rfl)) ?_;(with_reducible refine (mosaicref04_Gen_Pick.calls kj153 x546000_2 x546001_2 x548001_153 ((rd_T90 l1 x7_2).f2) t572 t573 t574 _ A159.out).mono ?_);rintro e w170 ⟨v575,rfl,ho0,hb⟩;refine ⟨_,rfl,?_⟩;have n0_:=Aside0.mk (Kd.R_lower ho0 (below_size (by repeat (first|(with_reducible first|exact HB.out|apply below_alloc|apply pw_below_drewN|apply below_drew1|refine below_set ?_ (IsS130.ge HI542.out)|refine below_set ?_ GE545.out|refine below_set ?_ GE547.out)|exact HB.out))));have n1_:=Aside0.mk (blk_below (g:=gb545) (o:=.cells #[.string x546000_2,.int .i64 x546001_2] 83 (0,0)) (by (with_reducible repeat (first|refine blk_drewN ?_ _|refine blk_drew ?_|refine blk_alloc ?_ _));exact BK545.out) hb);have n2_:=Aside0.mk (blk_below (g:=gb547) (o:=.cells #[.int .i64 ((rd_T90 l1 x7_2).f0),.int .i64 x548001_153,.int .i64 ((rd_T90 l1 x7_2).f2)] 90 (0,0)) (by (with_reducible repeat (first|refine blk_drewN ?_ _|refine blk_drew ?_|refine blk_alloc ?_ _));exact BK547.out) hb);have n3_:=Aside0.mk (IsS130.below (by repeat (first|(with_reducible first|exact HI542.out|apply IsS130.alloc|apply IsS130.drewN|apply IsS130.drew|apply IsS130.set_0|apply IsS130.set_1|apply IsS130.set_2|refine IsS130.far ?_ NB542_545.out _|refine IsS130.far ?_ NB542_547.out _)|exact HI542.out)) hb);have n4_:=Aside0.mk (below_step (by repeat (first|(with_reducible first|exact HB.out|apply below_alloc|apply pw_below_drewN|apply below_drew1|refine below_set ?_ (IsS130.ge HI542.out)|refine below_set ?_ GE545.out|refine below_set ?_ GE547.out)|exact HB.out)) hb);clear BK545;clear BK547;clear HI542;clear HB;have HO576:=n0_;have BK545:=n1_;have BK547:=n2_;have HI542:=n3_;have HB:=n4_;clear n0_ n1_ n2_ n3_ n4_;(try clear hb);(try clear hb2);(try clear hk);(try clear hi);(try clear ho0))|((with_reducible refine gate_dst (N:=11) rfl ?_);(try (refine gate_guard (by rfl) ?_;dsimp only));refine box_event ?hg (N:=11) ?hd (cs:=#[.string (⟨#[]⟩:ByteArray),.int .i64 0,.slice none 0 0]) (t:=94) ?hr ?_;(case hd=>rfl);(case hg=>rfl);(case hr=>first|(go_simp;done)|(go_simp;rfl));intro gb577 hg w171 hbox hb;have n0_:=Aside0.mk (Kd.R_below (by (with_reducible repeat (first|apply Kd.R_alloc|apply Kd.R_drewN|apply Kd.R_drew));exact HO576.out) hb);have n1_:=Aside0.mk (blk_below (g:=gb545) (o:=.cells #[.string x546000_2,.int .i64 x546001_2] 83 (0,0)) (by (with_reducible repeat (first|refine blk_drewN ?_ _|refine blk_drew ?_|refine blk_alloc ?_ _));exact BK545.out) hb);have n2_:=Aside0.mk (blk_below (g:=gb547) (o:=.cells #[.int .i64 ((rd_T90 l1 x7_2).f0),.int .i64 x548001_153,.int .i64 ((rd_T90 l1 x7_2).f2)] 90 (0,0)) (by (with_reducible repeat (first|refine blk_drewN ?_ _|refine blk_drew ?_|refine blk_alloc ?_ _));exact BK547.out) hb);have n3_:=Aside0.mk (IsS130.below (by repeat (first|(with_reducible first|exact HI542.out|apply IsS130.alloc|apply IsS130.drewN|apply IsS130.drew|apply IsS130.set_0|apply IsS130.set_1|apply IsS130.set_2|refine IsS130.far ?_ NB542_545.out _|refine IsS130.far ?_ NB542_547.out _)|exact HI542.out)) hb);have n4_:=Aside0.mk (below_step (by repeat (first|(with_reducible first|exact HB.out|apply below_alloc|apply pw_below_drewN|apply below_drew1|refine below_set ?_ (IsS130.ge HI542.out)|refine below_set ?_ GE545.out|refine below_set ?_ GE547.out)|exact HB.out)) hb);have n5_:=Aside0.mk (hbox);have n6_:=Aside0.mk ((by rw [hg];exact (below_size (by repeat (first|(with_reducible first|exact HB.out|apply below_alloc|apply pw_below_drewN|apply below_drew1|refine below_set ?_ (IsS130.ge HI542.out)|refine below_set ?_ GE545.out|refine below_set ?_ GE547.out)|exact HB.out))):w.heap.size≤gb577));have n7_:=Aside0.mk ((by rw [hg];exact (below_size (by repeat (first|(with_reducible first|exact HB.out|apply below_alloc|apply pw_below_drewN|apply below_drew1|refine below_set ?_ (IsS130.ge HI542.out)|refine below_set ?_ GE545.out|refine below_set ?_ GE547.out)|exact HB.out))):w.heap.size≤gb577));have n8_:=Aside0.mk ((by rw [hg];exact Nat.ne_of_lt (blk_lt (g:=gb545) (o:=.cells #[.string x546000_2,.int .i64 x546001_2] 83 (0,0)) (by (with_reducible repeat (first|refine blk_drewN ?_ _|refine blk_drew ?_|refine blk_alloc ?_ _));exact BK545.out)):gb545≠gb577));have n9_:=Aside0.mk ((by rw [hg];exact Nat.ne_of_gt (blk_lt (g:=gb545) (o:=.cells #[.string x546000_2,.int .i64 x546001_2] 83 (0,0)) (by (with_reducible repeat (first|refine blk_drewN ?_ _|refine blk_drew ?_|refine blk_alloc ?_ _));exact BK545.out)):gb577≠gb545));have n10_:=Aside0.mk ((by rw [hg];exact Nat.ne_of_lt (blk_lt (g:=gb547) (o:=.cells #[.int .i64 ((rd_T90 l1 x7_2).f0),.int .i64 x548001_153,.int .i64 ((rd_T90 l1 x7_2).f2)] 90 (0,0)) (by (with_reducible repeat (first|refine blk_drewN ?_ _|refine blk_drew ?_|refine blk_alloc ?_ _));exact BK547.out)):gb547≠gb577));have n11_:=Aside0.mk ((by rw [hg];exact Nat.ne_of_gt (blk_lt (g:=gb547) (o:=.cells #[.int .i64 ((rd_T90 l1 x7_2).f0),.int .i64 x548001_153,.int .i64 ((rd_T90 l1 x7_2).f2)] 90 (0,0)) (by (with_reducible repeat (first|refine blk_drewN ?_ _|refine blk_drew ?_|refine blk_alloc ?_ _));exact BK547.out)):gb577≠gb547));have n12_:=Aside0.mk ((by rw [hg];exact Nat.ne_of_lt (IsS130.lt (show IsS130 w _ g542 x543000_2 x543001_2 x543002_2 from by repeat (first|(with_reducible first|exact HI542.out|apply IsS130.alloc|apply IsS130.drewN|apply IsS130.drew|apply IsS130.set_0|apply IsS130.set_1|apply IsS130.set_2|refine IsS130.far ?_ NB542_545.out _|refine IsS130.far ?_ NB542_547.out _)|exact HI542.out))):g542≠gb577));have n13_:=Aside0.mk ((by rw [hg];exact Nat.ne_of_gt (IsS130.lt (show IsS130 w _ g542 x543000_2 x543001_2 x543002_2 from by repeat (first|(with_reducible first|exact HI542.out|apply IsS130.alloc|apply IsS130.drewN|apply IsS130.drew|apply IsS130.set_0|apply IsS130.set_1|apply IsS130.set_2|refine IsS130.far ?_ NB542_545.out _|refine IsS130.far ?_ NB542_547.out _)|exact HI542.out))):gb577≠g542));clear HO576;clear BK545;clear BK547;clear HI542;clear HB;have HO576:=n0_;have BK545:=n1_;have BK547:=n2_;have HI542:=n3_;have HB:=n4_;have BK577:=n5_;have GW577:=n6_;have GE577:=n7_;have NB545_577:=n8_;have NB577_545:=n9_;have NB547_577:=n10_;have NB577_547:=n11_;have NB542_577:=n12_;have NB577_542:=n13_;clear n0_ n1_ n2_ n3_ n4_ n5_ n6_ n7_ n8_ n9_ n10_ n11_ n12_ n13_;clear hb hbox hg;have hnb172:=NB577_545.out;have hnc172:=NB545_577.out;have hnb173:=NB577_547.out;have hnc173:=NB547_577.out;have hnb174:=NB577_542.out;have hnc174:=NB542_577.out;have hcz175_0:w171.cell? ⟨gb577,0,none⟩=some (.string (⟨#[]⟩:ByteArray)):=(blk_cell BK577.out 0).trans rfl;have hcz175_1:w171.cell? ⟨gb577,1,none⟩=some (.int .i64 0):=(blk_cell BK577.out 1).trans rfl;have hcz175_2:w171.cell? ⟨gb577,2,none⟩=some (.slice none 0 0):=(blk_cell BK577.out 2).trans rfl;have hfz175_0:=blk_frozen BK577.out 0;have hfz175_1:=blk_frozen BK577.out 1;have hfz175_2:=blk_frozen BK577.out 2;obtain ⟨Ao176,co176,eo176⟩:=Kd.R_slice HO576.out;subst eo176;have hcz177_0:w171.cell? ⟨gb545,0,none⟩=some (.string x546000_2):=(blk_cell BK545.out 0).trans rfl;have hcz177_1:w171.cell? ⟨gb545,1,none⟩=some (.int .i64 x546001_2):=(blk_cell BK545.out 1).trans rfl;have hfz177_0:=blk_frozen BK545.out 0;have hfz177_1:=blk_frozen BK545.out 1))
                    have n0_:Aside0 (Kd.R (Kd.int .i64) 3 (((((w171.setCell ⟨gb577,0,none⟩ (.string t572)).setCell ⟨gb577,1,none⟩ (.int .i64 t573)).setCell ⟨gb577,2,none⟩ (.slice Ao176 t574.length co176)).setCell ⟨gb545,0,none⟩ (.string t572)).setCell ⟨gb545,1,none⟩ (.int .i64 t573)) w.heap.size (fun _=>True) (.slice Ao176 t574.length co176) t574):=⟨by (with_reducible repeat (first|apply Kd.R_alloc|apply Kd.R_drewN|apply Kd.R_drew));exact Kd.R_mono (Kd.R_far (p:=⟨gb545,1,none⟩) (Kd.R_far (p:=⟨gb545,0,none⟩) (Kd.R_far (p:=⟨gb577,2,none⟩) (Kd.R_far (p:=⟨gb577,1,none⟩) (Kd.R_far (p:=⟨gb577,0,none⟩) (Kd.R_types (Kd.R_types HO576.out BK577.out (by decide)) BK545.out (by decide)) (fun _ hk=>hk.1.2) (.string t572)) (fun _ hk=>hk.1.2) (.int .i64 t573)) (fun _ hk=>hk.1.2) (.slice Ao176 t574.length co176)) (fun _ hk=>hk.2) (.string t572)) (fun _ hk=>hk.2) (.int .i64 t573)) (fun _ hk=>trivial)⟩
                    have n1_:Aside0 ((((((w171.setCell ⟨gb577,0,none⟩ (.string t572)).setCell ⟨gb577,1,none⟩ (.int .i64 t573)).setCell ⟨gb577,2,none⟩ (.slice Ao176 t574.length co176)).setCell ⟨gb545,0,none⟩ (.string t572)).setCell ⟨gb545,1,none⟩ (.int .i64 t573)).heap[gb545]?=some (.cells #[.string t572,.int .i64 t573] 83 (0,0))):=⟨by (with_reducible repeat (first|refine blk_drewN ?_ _|refine blk_drew ?_|refine blk_alloc ?_ _));refine blk_put (cs:=#[.string t572,.int .i64 x546001_2]) ?_ 1 _ rfl;(with_reducible repeat (first|refine blk_drewN ?_ _|refine blk_drew ?_|refine blk_alloc ?_ _));refine blk_put (cs:=#[.string x546000_2,.int .i64 x546001_2]) ?_ 0 _ rfl;(with_reducible repeat (first|refine blk_drewN ?_ _|refine blk_drew ?_|refine blk_alloc ?_ _));refine blk_far ?_ NB545_577.out _;(with_reducible repeat (first|refine blk_drewN ?_ _|refine blk_drew ?_|refine blk_alloc ?_ _));refine blk_far ?_ NB545_577.out _;(with_reducible repeat (first|refine blk_drewN ?_ _|refine blk_drew ?_|refine blk_alloc ?_ _));refine blk_far ?_ NB545_577.out _;(with_reducible repeat (first|refine blk_drewN ?_ _|refine blk_drew ?_|refine blk_alloc ?_ _));exact BK545.out⟩
                    have n2_:Aside0 ((((((w171.setCell ⟨gb577,0,none⟩ (.string t572)).setCell ⟨gb577,1,none⟩ (.int .i64 t573)).setCell ⟨gb577,2,none⟩ (.slice Ao176 t574.length co176)).setCell ⟨gb545,0,none⟩ (.string t572)).setCell ⟨gb545,1,none⟩ (.int .i64 t573)).heap[gb547]?=some (.cells #[.int .i64 ((rd_T90 l1 x7_2).f0),.int .i64 x548001_153,.int .i64 ((rd_T90 l1 x7_2).f2)] 90 (0,0))):=⟨by (with_reducible repeat (first|refine blk_drewN ?_ _|refine blk_drew ?_|refine blk_alloc ?_ _));refine blk_far ?_ NB547_545.out _;(with_reducible repeat (first|refine blk_drewN ?_ _|refine blk_drew ?_|refine blk_alloc ?_ _));refine blk_far ?_ NB547_545.out _;(with_reducible repeat (first|refine blk_drewN ?_ _|refine blk_drew ?_|refine blk_alloc ?_ _));refine blk_far ?_ NB547_577.out _;(with_reducible repeat (first|refine blk_drewN ?_ _|refine blk_drew ?_|refine blk_alloc ?_ _));refine blk_far ?_ NB547_577.out _;(with_reducible repeat (first|refine blk_drewN ?_ _|refine blk_drew ?_|refine blk_alloc ?_ _));refine blk_far ?_ NB547_577.out _;(with_reducible repeat (first|refine blk_drewN ?_ _|refine blk_drew ?_|refine blk_alloc ?_ _));exact BK547.out⟩
                    have n3_:Aside0 ((((((w171.setCell ⟨gb577,0,none⟩ (.string t572)).setCell ⟨gb577,1,none⟩ (.int .i64 t573)).setCell ⟨gb577,2,none⟩ (.slice Ao176 t574.length co176)).setCell ⟨gb545,0,none⟩ (.string t572)).setCell ⟨gb545,1,none⟩ (.int .i64 t573)).heap[gb577]?=some (.cells #[.string t572,.int .i64 t573,.slice Ao176 t574.length co176] 94 (0,0))):=⟨by (with_reducible repeat (first|refine blk_drewN ?_ _|refine blk_drew ?_|refine blk_alloc ?_ _));refine blk_far ?_ NB577_545.out _;(with_reducible repeat (first|refine blk_drewN ?_ _|refine blk_drew ?_|refine blk_alloc ?_ _));refine blk_far ?_ NB577_545.out _;(with_reducible repeat (first|refine blk_drewN ?_ _|refine blk_drew ?_|refine blk_alloc ?_ _));refine blk_put (cs:=#[.string t572,.int .i64 t573,.slice none 0 0]) ?_ 2 _ rfl;(with_reducible repeat (first|refine blk_drewN ?_ _|refine blk_drew ?_|refine blk_alloc ?_ _));refine blk_put (cs:=#[.string t572,.int .i64 0,.slice none 0 0]) ?_ 1 _ rfl;(with_reducible repeat (first|refine blk_drewN ?_ _|refine blk_drew ?_|refine blk_alloc ?_ _));refine blk_put (cs:=#[.string (⟨#[]⟩:ByteArray),.int .i64 0,.slice none 0 0]) ?_ 0 _ rfl;(with_reducible repeat (first|refine blk_drewN ?_ _|refine blk_drew ?_|refine blk_alloc ?_ _));exact BK577.out⟩
                    have n4_:Aside0 (IsS130 w (((((w171.setCell ⟨gb577,0,none⟩ (.string t572)).setCell ⟨gb577,1,none⟩ (.int .i64 t573)).setCell ⟨gb577,2,none⟩ (.slice Ao176 t574.length co176)).setCell ⟨gb545,0,none⟩ (.string t572)).setCell ⟨gb545,1,none⟩ (.int .i64 t573)) g542 x543000_2 x543001_2 x543002_2):=⟨by repeat (first|(with_reducible first|exact HI542.out|apply IsS130.alloc|apply IsS130.drewN|apply IsS130.drew|apply IsS130.set_0|apply IsS130.set_1|apply IsS130.set_2|refine IsS130.far ?_ NB542_545.out _|refine IsS130.far ?_ NB542_547.out _|refine IsS130.far ?_ NB542_577.out _)|exact HI542.out)⟩
                    have n5_:Aside0 (Below w.heap.size w (((((w171.setCell ⟨gb577,0,none⟩ (.string t572)).setCell ⟨gb577,1,none⟩ (.int .i64 t573)).setCell ⟨gb577,2,none⟩ (.slice Ao176 t574.length co176)).setCell ⟨gb545,0,none⟩ (.string t572)).setCell ⟨gb545,1,none⟩ (.int .i64 t573))):=⟨by repeat (first|(with_reducible first|exact HB.out|apply below_alloc|apply pw_below_drewN|apply below_drew1|refine below_set ?_ (IsS130.ge HI542.out)|refine below_set ?_ GE545.out|refine below_set ?_ GE547.out|refine below_set ?_ GE577.out)|exact HB.out)⟩
                    (try clear HO576)
                    (try clear BK545)
                    (try clear BK547)
                    (try clear BK577)
                    (try clear HI542)
                    (try clear HB)
                    generalize (((((w171.setCell ⟨gb577,0,none⟩ (.string t572)).setCell ⟨gb577,1,none⟩ (.int .i64 t573)).setCell ⟨gb577,2,none⟩ (.slice Ao176 t574.length co176)).setCell ⟨gb545,0,none⟩ (.string t572)).setCell ⟨gb545,1,none⟩ (.int .i64 t573))=w178 at n0_ n1_ n2_ n3_ n4_ n5_ ⊢
                    have HO576:=n0_
                    have BK545:=n1_
                    have BK547:=n2_
                    have BK577:=n3_
                    have HI542:=n4_
                    have HB:=n5_
                    clear n0_ n1_ n2_ n3_ n4_ n5_
                    have n0_:=Aside0.mk (Kd.R_drew HO576.out)
                    have n1_:=Aside0.mk (blk_drew BK545.out)
                    have n2_:=Aside0.mk (blk_drew BK547.out)
                    have n3_:=Aside0.mk (blk_drew BK577.out)
                    have n4_:=Aside0.mk (IsS130.drew HI542.out)
                    have n5_:=Aside0.mk (below_drew1 HB.out)
                    clear HO576
                    clear BK545
                    clear BK547
                    clear BK577
                    clear HI542
                    clear HB
                    have HO576:=n0_
                    have BK545:=n1_
                    have BK547:=n2_
                    have BK577:=n3_
                    have HI542:=n4_
                    have HB:=n5_
                    clear n0_ n1_ n2_ n3_ n4_ n5_
                    refine start_ (n:=10) (S:=fun w'=>w'.cell? ⟨gb547,0,none⟩=some (.int .i64 ((rd_T90 l1 x7_2).f0))∧w'.cell? ⟨gb547,1,none⟩=some (.int .i64 x548001_153)∧w'.cell? ⟨gb547,2,none⟩=some (.int .i64 ((rd_T90 l1 x7_2).f2))∧w'.cell? ⟨gb577,0,none⟩=some (.string t572)∧w'.cell? ⟨gb577,1,none⟩=some (.int .i64 t573)∧w'.cell? ⟨gb577,2,none⟩=some (.slice Ao176 t574.length co176)) (ds:=[]) #[false,false,false,false,false,false,false,false,false,false] (by kernel_rfl) rfl rfl ⟨(blk_cell BK547.out 0).trans rfl,(blk_cell BK547.out 1).trans rfl,(blk_cell BK547.out 2).trans rfl,(blk_cell BK577.out 0).trans rfl,(blk_cell BK577.out 1).trans rfl,(blk_cell BK577.out 2).trans rfl⟩ (fun hHeld=>?_);refine with_tabW mosaiclaw04_PrngDraws.tab25 mosaiclaw04_PrngDraws.bits25 (fun HT_ HW_=>?_)
                    generalize w178.drew=w179 at HO576 BK545 BK547 BK577 HI542 HB hHeld ⊢
                    refine pure_ (i:=0) (N:=some 94) (v:=?_) (a':=?_) #[true,false,false,false,false,false,false,false,false,false] rfl rfl (any_of HT_.out (by kernel_rfl)) (fun _ _ _ h=>h) (Or.inl ⟨by rfl,?_⟩) ?_ ?_
                    rotate_left
                    ·
                     intro w'
                     go_simp
                     with_reducible rfl
                    rotate_left
                    ·
                     simp only [Act.put,List.setIfInBounds_toArray,List.set_cons_zero,List.set_cons_succ,i64_w,i32_w]
                     rfl
                    refine pure_ (i:=1) (N:=some 95) (v:=?_) (a':=?_) #[true,true,false,false,false,false,false,false,false,false] rfl rfl (any_of HT_.out (by kernel_rfl)) (fun _ _ _ h=>h) (Or.inl ⟨by rfl,?_⟩) ?_ ?_
                    rotate_left
                    ·
                     intro w'
                     go_simp
                     with_reducible rfl
                    rotate_left
                    ·
                     simp only [Act.put,List.setIfInBounds_toArray,List.set_cons_zero,List.set_cons_succ,i64_w,i32_w]
                     rfl
                    refine pure_ (i:=3) (N:=some 97) (v:=?_) (a':=?_) #[true,true,false,true,false,false,false,false,false,false] rfl rfl (any_of HT_.out (by kernel_rfl)) (fun _ _ _ h=>h) (Or.inl ⟨by rfl,?_⟩) ?_ ?_
                    rotate_left
                    ·
                     intro w'
                     go_simp
                     with_reducible rfl
                    rotate_left
                    ·
                     simp only [Act.put,List.setIfInBounds_toArray,List.set_cons_zero,List.set_cons_succ,i64_w,i32_w]
                     rfl
                    refine pure_ (i:=6) (N:=some 100) (v:=?_) (a':=?_) #[true,true,false,true,false,false,true,false,false,false] rfl rfl (any_of HT_.out (by kernel_rfl)) (fun _ _ _ h=>h) (Or.inl ⟨by rfl,?_⟩) ?_ ?_
                    rotate_left
                    ·
                     intro w'
                     go_simp
                     with_reducible rfl
                    rotate_left
                    ·
                     simp only [Act.put,List.setIfInBounds_toArray,List.set_cons_zero,List.set_cons_succ,i64_w,i32_w]
                     rfl
                    refine take_ (i:=2) (N:=some 96) (v:=?_) (a':=?_) #[true,true,true,true,false,false,true,false,false,false] rfl rfl (take_ofW HT_.out HW_.out (by kernel_rfl)) (fun _ _ _ h=>h) (Or.inl ⟨by rfl,?_⟩) hHeld ?_ ?_
                    rotate_left
                    ·
                     rintro w' ⟨s0,s1,s2,s3,s4,s5⟩
                     go_simp
                     with_reducible rfl
                    rotate_left
                    ·
                     simp only [Act.put,List.setIfInBounds_toArray,List.set_cons_zero,List.set_cons_succ,i64_w,i32_w]
                     rfl
                    refine take_ (i:=4) (N:=some 98) (v:=?_) (a':=?_) #[true,true,true,true,true,false,true,false,false,false] rfl rfl (take_ofW HT_.out HW_.out (by kernel_rfl)) (fun _ _ _ h=>h) (Or.inl ⟨by rfl,?_⟩) hHeld ?_ ?_
                    rotate_left
                    ·
                     rintro w' ⟨s0,s1,s2,s3,s4,s5⟩
                     go_simp
                     with_reducible rfl
                    rotate_left
                    ·
                     simp only [Act.put,List.setIfInBounds_toArray,List.set_cons_zero,List.set_cons_succ,i64_w,i32_w]
                     rfl
                    refine take_ (i:=7) (N:=some 101) (v:=?_) (a':=?_) #[true,true,true,true,true,false,true,true,false,false] rfl rfl (take_ofW HT_.out HW_.out (by kernel_rfl)) (fun _ _ _ h=>h) (Or.inl ⟨by rfl,?_⟩) hHeld ?_ ?_
                    rotate_left
                    ·
                     rintro w' ⟨s0,s1,s2,s3,s4,s5⟩
                     go_simp
                     with_reducible rfl
                    rotate_left
                    ·
                     simp only [Act.put,List.setIfInBounds_toArray,List.set_cons_zero,List.set_cons_succ,i64_w,i32_w]
                     rfl
                    refine one_ (i:=5) (N:=some 99) #[true,true,true,true,true,true,true,true,false,false] rfl rfl (one_of HT_.out (by kernel_rfl)) (by decide) (fun K hK=>?_)
                    refine goes_ Try.func63 (by kernel_rfl) rfl #[.pointer (some ⟨g542,0,none⟩),.int .i64 x548001_153,.int .i64 ((rd_T90 l1 x7_2).f2)] (by rfl) rfl rfl (by (try simp only [List.map_toArray,List.map_cons,List.map_nil]);first|done|rfl|(simp only [List.length_drop,List.length_take];rfl)) ?_
                    with_reducible refine (prng_Gen_Pick.calls kj153 g542 x543000_2 x543001_2 x543002_2 x548001_153 ((rd_T90 l1 x7_2).f2) t578 t581 t582 t583 w _ ?side1 ?side2 A160.out).mono ?_
                    (case side1=>repeat (first|(with_reducible first|exact HI542.out|apply IsS130.alloc|apply IsS130.drewN|apply IsS130.drew|apply IsS130.set_0|apply IsS130.set_1|apply IsS130.set_2|refine IsS130.far ?_ NB542_545.out _|refine IsS130.far ?_ NB542_547.out _|refine IsS130.far ?_ NB542_577.out _)|exact HI542.out))
                    (case side2=>repeat (first|(with_reducible first|exact HB.out|apply below_alloc|apply pw_below_drewN|apply below_drew1|refine below_set ?_ (IsS130.ge HI542.out)|refine below_set ?_ GE545.out|refine below_set ?_ GE547.out|refine below_set ?_ GE577.out)|exact HB.out))
                    rintro e w180 ⟨v579,rfl,ho0,hi,hb,hk⟩
                    refine ⟨_,rfl,?_⟩
                    have n0_:=Aside0.mk (KeepBut.blk hk (g':=gb545) (o:=.cells #[.string t572,.int .i64 t573] 83 (0,0)) (by (with_reducible repeat (first|refine blk_drewN ?_ _|refine blk_drew ?_|refine blk_alloc ?_ _));exact BK545.out) NB545_542.out (by simp))
                    have n1_:=Aside0.mk (KeepBut.blk hk (g':=gb547) (o:=.cells #[.int .i64 ((rd_T90 l1 x7_2).f0),.int .i64 x548001_153,.int .i64 ((rd_T90 l1 x7_2).f2)] 90 (0,0)) (by (with_reducible repeat (first|refine blk_drewN ?_ _|refine blk_drew ?_|refine blk_alloc ?_ _));exact BK547.out) NB547_542.out (by simp))
                    have n2_:=Aside0.mk (Kd.R_mono (Kd.R_keep (IsS130.apart (show IsS130 w _ g542 x543000_2 x543001_2 x543002_2 from by repeat (first|(with_reducible first|exact HI542.out|apply IsS130.alloc|apply IsS130.drewN|apply IsS130.drew|apply IsS130.set_0|apply IsS130.set_1|apply IsS130.set_2|refine IsS130.far ?_ NB542_545.out _|refine IsS130.far ?_ NB542_547.out _|refine IsS130.far ?_ NB542_577.out _)|exact HI542.out)) (by (with_reducible repeat (first|apply Kd.R_alloc|apply Kd.R_drewN|apply Kd.R_drew));exact HO576.out) (by decide)) hk (fun _ h=>h.2)) (fun _ h=>h.1))
                    have n3_:=Aside0.mk (KeepBut.blk hk (g':=gb577) (o:=.cells #[.string t572,.int .i64 t573,.slice Ao176 t574.length co176] 94 (0,0)) (by (with_reducible repeat (first|refine blk_drewN ?_ _|refine blk_drew ?_|refine blk_alloc ?_ _));exact BK577.out) NB577_542.out (by simp))
                    have n4_:=Aside0.mk (Kd.V_lower (Kd.V_mono (ok':=fun k_=>some k_≠(.slice Ao176 t574.length co176:Value).ownBlock∧k_≠gb545∧k_≠gb547∧k_≠gb577∧k_≠g542) ho0 (fun k_ hk_=>⟨(Kd.fresh' (Kd.R_lt (by (with_reducible repeat (first|apply Kd.R_alloc|apply Kd.R_drewN|apply Kd.R_drew));exact HO576.out)) k_ hk_),(Kd.freshB (g:=gb545) (o:=.cells #[.string t572,.int .i64 t573] 83 (0,0)) (by (with_reducible repeat (first|refine blk_drewN ?_ _|refine blk_drew ?_|refine blk_alloc ?_ _));exact BK545.out) k_ hk_),(Kd.freshB (g:=gb547) (o:=.cells #[.int .i64 ((rd_T90 l1 x7_2).f0),.int .i64 x548001_153,.int .i64 ((rd_T90 l1 x7_2).f2)] 90 (0,0)) (by (with_reducible repeat (first|refine blk_drewN ?_ _|refine blk_drew ?_|refine blk_alloc ?_ _));exact BK547.out) k_ hk_),(Kd.freshB (g:=gb577) (o:=.cells #[.string t572,.int .i64 t573,.slice Ao176 t574.length co176] 94 (0,0)) (by (with_reducible repeat (first|refine blk_drewN ?_ _|refine blk_drew ?_|refine blk_alloc ?_ _));exact BK577.out) k_ hk_),(IsS130.fresh (by repeat (first|(with_reducible first|exact HI542.out|apply IsS130.alloc|apply IsS130.drewN|apply IsS130.drew|apply IsS130.set_0|apply IsS130.set_1|apply IsS130.set_2|refine IsS130.far ?_ NB542_545.out _|refine IsS130.far ?_ NB542_547.out _|refine IsS130.far ?_ NB542_577.out _)|exact HI542.out)) k_ hk_)⟩)) (below_size (by repeat (first|(with_reducible first|exact HB.out|apply below_alloc|apply pw_below_drewN|apply below_drew1|refine below_set ?_ (IsS130.ge HI542.out)|refine below_set ?_ GE545.out|refine below_set ?_ GE547.out|refine below_set ?_ GE577.out)|exact HB.out))))
                    have n5_:=Aside0.mk (hb)
                    have n6_:=Aside0.mk (hi)
                    clear BK545
                    clear BK547
                    clear HO576
                    clear BK577
                    clear HB
                    clear HI542
                    have BK545:=n0_
                    have BK547:=n1_
                    have HO576:=n2_
                    have BK577:=n3_
                    have HO580:=n4_
                    have HB:=n5_
                    have HI542:=n6_
                    clear n0_ n1_ n2_ n3_ n4_ n5_ n6_
                    (try clear hb)
                    (try clear hb2)
                    (try clear hk)
                    (try clear hi)
                    (try clear ho0)
                    obtain ⟨Ao181,co181,eo181⟩:=Kd.V_slice HO580.out
                    (first|subst eo181|(injection eo181 with f1_ f2_ f3_;have f4_:=f1_.symm;have f5_:=f3_.symm;clear f1_ f2_ f3_;subst f4_;subst f5_))
                    refine hK.out _ _ ⟨(blk_cell BK547.out 0).trans rfl,(blk_cell BK547.out 1).trans rfl,(blk_cell BK547.out 2).trans rfl,(blk_cell BK577.out 0).trans rfl,(blk_cell BK577.out 1).trans rfl,(blk_cell BK577.out 2).trans rfl⟩ (fun hHeld=>?_)
                    clear hK K
                    refine norm_ (a':=?_) ?_ ?_
                    rotate_left
                    ·
                     show Act.put _ (some 99) _=_
                     simp only [Act.put,List.setIfInBounds_toArray,List.set_cons_zero,List.set_cons_succ,i64_w,i32_w]
                     rfl
                    refine one_ (i:=8) (N:=some 102) #[true,true,true,true,true,true,true,true,true,false] rfl rfl (one_of HT_.out (by kernel_rfl)) (by decide) (fun K hK=>?_)
                    refine goes_ Try.func72 (by kernel_rfl) rfl #[.slice Ao181 t578.length co181,.slice Ao176 t574.length co176] (by rfl) rfl rfl (by (try simp only [List.map_toArray,List.map_cons,List.map_nil]);first|done|rfl|(simp only [List.length_drop,List.length_take];rfl)) ?_
                    with_reducible refine (mosaicref04_Same.calls kj153 _ _ t578 _ _ t574 true _ ?side1 ?side2 ?side3 ?side4 A161.out).mono ?_
                    (case side1=>repeat (first|exact (Kd.V_reads' HO580.out).2.2|(with_reducible refine Kd.C_alloc ?_ _)|(with_reducible refine Kd.C_drewN ?_ _)|(with_reducible refine Kd.C_drew ?_)))
                    (case side2=>exact (Kd.V_reads' HO580.out).2.1)
                    (case side3=>repeat (first|exact (Kd.R_reads' HO576.out).2.2|(with_reducible refine Kd.C_alloc ?_ _)|(with_reducible refine Kd.C_drewN ?_ _)|(with_reducible refine Kd.C_drew ?_)))
                    (case side4=>exact (Kd.R_reads' HO576.out).2.1)
                    rintro e w' ⟨rfl,⟨nd,rfl⟩⟩
                    refine ⟨_,rfl,?_⟩
                    refine hK.out _ _ ⟨(blk_cell BK547.out 0).trans rfl,(blk_cell BK547.out 1).trans rfl,(blk_cell BK547.out 2).trans rfl,(blk_cell BK577.out 0).trans rfl,(blk_cell BK577.out 1).trans rfl,(blk_cell BK577.out 2).trans rfl⟩ (fun hHeld=>?_)
                    clear hK K
                    refine norm_ (a':=?_) ?_ ?_
                    rotate_left
                    ·
                     show Act.put _ (some 102) _=_
                     simp only [Act.put,List.setIfInBounds_toArray,List.set_cons_zero,List.set_cons_succ,i64_w,i32_w]
                     rfl
                    refine pure_ (i:=9) (N:=some 103) (v:=?_) (a':=?_) #[true,true,true,true,true,true,true,true,true,true] rfl rfl (any_of HT_.out (by kernel_rfl)) (fun _ _ _ h=>h) (Or.inl ⟨by rfl,?_⟩) ?_ ?_
                    rotate_left
                    ·
                     intro w'
                     go_simp
                     with_reducible rfl
                    rotate_left
                    ·
                     simp only [Act.put,List.setIfInBounds_toArray,List.set_cons_zero,List.set_cons_succ,i64_w,i32_w]
                     rfl
                    refine done_ (done_of HT_.out (by kernel_rfl)) ?_
                    try go_wp2
                    (try (rw [drewN_self w180];generalize hq_:World.drewN w180 _=w180;have n0_:Aside0 (Kd.R (Kd.int .i64) 3 w180 w.heap.size (fun _=>True) (.slice Ao176 t574.length co176) t574):=⟨by rw [← hq_];exact (by (with_reducible repeat (first|apply Kd.R_alloc|apply Kd.R_drewN|apply Kd.R_drew));exact HO576.out)⟩;have n1_:Aside0 (Kd.V (Kd.int .i64) 3 w180 w.heap.size (fun k_=>some k_≠(.slice Ao176 t574.length co176:Value).ownBlock∧k_≠g542∧k_≠gb545∧k_≠gb547∧k_≠gb577) (.slice Ao181 t578.length co181) t578):=⟨by rw [← hq_];exact (by (with_reducible repeat (first|apply Kd.V_alloc|apply Kd.V_drewN|apply Kd.V_drew));exact Kd.V_mono HO580.out (fun _ hk=>⟨hk.1,⟨hk.2.2.2.2,⟨hk.2.1,⟨hk.2.2.1,hk.2.2.2.1⟩⟩⟩⟩))⟩;have n2_:Aside0 (w180.heap[gb545]?=some (.cells #[.string t572,.int .i64 t573] 83 (0,0))):=⟨by rw [← hq_];exact (by (with_reducible repeat (first|refine blk_drewN ?_ _|refine blk_drew ?_|refine blk_alloc ?_ _));exact BK545.out)⟩;have n3_:Aside0 (w180.heap[gb547]?=some (.cells #[.int .i64 ((rd_T90 l1 x7_2).f0),.int .i64 x548001_153,.int .i64 ((rd_T90 l1 x7_2).f2)] 90 (0,0))):=⟨by rw [← hq_];exact (by (with_reducible repeat (first|refine blk_drewN ?_ _|refine blk_drew ?_|refine blk_alloc ?_ _));exact BK547.out)⟩;have n4_:Aside0 (w180.heap[gb577]?=some (.cells #[.string t572,.int .i64 t573,.slice Ao176 t574.length co176] 94 (0,0))):=⟨by rw [← hq_];exact (by (with_reducible repeat (first|refine blk_drewN ?_ _|refine blk_drew ?_|refine blk_alloc ?_ _));exact BK577.out)⟩;have n5_:Aside0 (IsS130 w w180 g542 t581 t582 t583):=⟨by rw [← hq_];exact (by repeat (first|(with_reducible first|exact HI542.out|apply IsS130.alloc|apply IsS130.drewN|apply IsS130.drew|apply IsS130.set_0|apply IsS130.set_1|apply IsS130.set_2|refine IsS130.far ?_ NB542_545.out _|refine IsS130.far ?_ NB542_547.out _|refine IsS130.far ?_ NB542_577.out _)|exact HI542.out))⟩;have n6_:Aside0 (Below w.heap.size w w180):=⟨by rw [← hq_];exact (by repeat (first|(with_reducible first|exact HB.out|apply below_alloc|apply pw_below_drewN|apply below_drew1|refine below_set ?_ (IsS130.ge HI542.out)|refine below_set ?_ GE545.out|refine below_set ?_ GE547.out|refine below_set ?_ GE577.out)|exact HB.out))⟩;clear HO576 HO580 BK545 BK547 BK577 HI542 HB hq_;have HO576:=n0_;have HO580:=n1_;have BK545:=n2_;have BK547:=n3_;have BK577:=n4_;have HI542:=n5_;have HB:=n6_;clear n0_ n1_ n2_ n3_ n4_ n5_ n6_))
                    have n0_:=Aside0.mk (Kd.R_drew HO576.out)
                    have n1_:=Aside0.mk (Kd.V_drew HO580.out)
                    have n2_:=Aside0.mk (blk_drew BK545.out)
                    have n3_:=Aside0.mk (blk_drew BK547.out)
                    have n4_:=Aside0.mk (blk_drew BK577.out)
                    have n5_:=Aside0.mk (IsS130.drew HI542.out)
                    have n6_:=Aside0.mk (below_drew1 HB.out)
                    clear HO576
                    clear HO580
                    clear BK545
                    clear BK547
                    clear BK577
                    clear HI542
                    clear HB
                    have HO576:=n0_
                    have HO580:=n1_
                    have BK545:=n2_
                    have BK547:=n3_
                    have BK577:=n4_
                    have HI542:=n5_
                    have HB:=n6_
                    clear n0_ n1_ n2_ n3_ n4_ n5_ n6_
                    refine start_ (n:=5) (S:=fun w'=>w'.cell? ⟨gb545,0,none⟩=some (.string t572)∧w'.cell? ⟨gb545,1,none⟩=some (.int .i64 t573)) (ds:=[]) #[false,false,false,false,false] (by kernel_rfl) rfl rfl ⟨(blk_cell BK545.out 0).trans rfl,(blk_cell BK545.out 1).trans rfl⟩ (fun hHeld=>?_)
                    generalize w180.drew=w182 at HO576 HO580 BK545 BK547 BK577 HI542 HB hHeld ⊢
                    refine pure_ (i:=0) (N:=some 104) (v:=?_) (a':=?_) #[true,false,false,false,false] rfl rfl (by kernel_rfl) (fun _ _ _ h=>h) (Or.inl ⟨by rfl,?_⟩) ?_ ?_
                    rotate_left
                    ·
                     intro w'
                     go_simp
                     with_reducible rfl
                    rotate_left
                    ·
                     simp only [Act.put,List.setIfInBounds_toArray,List.set_cons_zero,List.set_cons_succ,i64_w,i32_w]
                     rfl
                    refine pure_ (i:=2) (N:=some 106) (v:=?_) (a':=?_) #[true,false,true,false,false] rfl rfl (by kernel_rfl) (fun _ _ _ h=>h) (Or.inl ⟨by rfl,?_⟩) ?_ ?_
                    rotate_left
                    ·
                     intro w'
                     go_simp
                     with_reducible rfl
                    rotate_left
                    ·
                     simp only [Act.put,List.setIfInBounds_toArray,List.set_cons_zero,List.set_cons_succ,i64_w,i32_w]
                     rfl
                    refine take_ (i:=3) (N:=some 107) (v:=?_) (a':=?_) #[true,false,true,true,false] rfl rfl (by kernel_rfl) (fun _ _ _ h=>h) (Or.inl ⟨by rfl,?_⟩) hHeld ?_ ?_
                    rotate_left
                    ·
                     rintro w' ⟨s0,s1⟩
                     go_simp
                     with_reducible rfl
                    rotate_left
                    ·
                     simp only [Act.put,List.setIfInBounds_toArray,List.set_cons_zero,List.set_cons_succ,i64_w,i32_w]
                     rfl
                    refine one_ (i:=1) (N:=some 105) #[true,true,true,true,false] rfl rfl (by kernel_rfl) (by decide) (fun K hK=>?_)
                    refine goes_ Try.func68 (by kernel_rfl) rfl #[.pointer (some ⟨g542,0,none⟩)] (by rfl) rfl rfl (by (try simp only [List.map_toArray,List.map_cons,List.map_nil]);first|done|rfl|(simp only [List.length_drop,List.length_take];rfl)) ?_
                    with_reducible refine (prng_Gen_Used.calls g542 t581 t582 t583 t585 t586 t587 t588 w _ ?side1 ?side2 A163.out).mono ?_
                    (case side1=>repeat (first|(with_reducible first|exact HI542.out|apply IsS130.alloc|apply IsS130.drewN|apply IsS130.drew|apply IsS130.set_0|apply IsS130.set_1|apply IsS130.set_2|refine IsS130.far ?_ NB542_545.out _|refine IsS130.far ?_ NB542_547.out _|refine IsS130.far ?_ NB542_577.out _)|exact HI542.out))
                    (case side2=>repeat (first|(with_reducible first|exact HB.out|apply below_alloc|apply pw_below_drewN|apply below_drew1|refine below_set ?_ (IsS130.ge HI542.out)|refine below_set ?_ GE545.out|refine below_set ?_ GE547.out|refine below_set ?_ GE577.out)|exact HB.out))
                    rintro e w183 ⟨rfl,hi,hb,hk⟩
                    refine ⟨_,rfl,?_⟩
                    have n0_:=Aside0.mk (KeepBut.blk hk (g':=gb545) (o:=.cells #[.string t572,.int .i64 t573] 83 (0,0)) (by (with_reducible repeat (first|refine blk_drewN ?_ _|refine blk_drew ?_|refine blk_alloc ?_ _));exact BK545.out) NB545_542.out (by simp))
                    have n1_:=Aside0.mk (KeepBut.blk hk (g':=gb547) (o:=.cells #[.int .i64 ((rd_T90 l1 x7_2).f0),.int .i64 x548001_153,.int .i64 ((rd_T90 l1 x7_2).f2)] 90 (0,0)) (by (with_reducible repeat (first|refine blk_drewN ?_ _|refine blk_drew ?_|refine blk_alloc ?_ _));exact BK547.out) NB547_542.out (by simp))
                    have n2_:=Aside0.mk (Kd.R_mono (Kd.R_keep (IsS130.apart (show IsS130 w _ g542 t581 t582 t583 from by repeat (first|(with_reducible first|exact HI542.out|apply IsS130.alloc|apply IsS130.drewN|apply IsS130.drew|apply IsS130.set_0|apply IsS130.set_1|apply IsS130.set_2|refine IsS130.far ?_ NB542_545.out _|refine IsS130.far ?_ NB542_547.out _|refine IsS130.far ?_ NB542_577.out _)|exact HI542.out)) (by (with_reducible repeat (first|apply Kd.R_alloc|apply Kd.R_drewN|apply Kd.R_drew));exact HO576.out) (by decide)) hk (fun _ h=>h.2)) (fun _ h=>h.1))
                    have n3_:=Aside0.mk (KeepBut.blk hk (g':=gb577) (o:=.cells #[.string t572,.int .i64 t573,.slice Ao176 t574.length co176] 94 (0,0)) (by (with_reducible repeat (first|refine blk_drewN ?_ _|refine blk_drew ?_|refine blk_alloc ?_ _));exact BK577.out) NB577_542.out (by simp))
                    have n4_:=Aside0.mk (Kd.V_mono (Kd.V_keep (Kd.V_mono (ok:=fun k_=>(some k_≠(.slice Ao176 t574.length co176:Value).ownBlock∧(k_≠gb545∧(k_≠gb547∧(k_≠gb577∧k_≠g542))))) (by (with_reducible repeat (first|apply Kd.V_alloc|apply Kd.V_drewN|apply Kd.V_drew));first|exact HO580.out|exact Kd.V_mono HO580.out (fun _ h_=>by simpa only [and_comm,and_left_comm,and_assoc] using h_)) (fun k_ hk_=>(⟨hk_,hk_.2.2.2.2⟩:_∧k_≠g542))) hk (fun _ h=>h.2)) (fun _ h=>h.1))
                    have n5_:=Aside0.mk (hb)
                    have n6_:=Aside0.mk (hi)
                    clear BK545
                    clear BK547
                    clear HO576
                    clear BK577
                    clear HO580
                    clear HB
                    clear HI542
                    have BK545:=n0_
                    have BK547:=n1_
                    have HO576:=n2_
                    have BK577:=n3_
                    have HO580:=n4_
                    have HB:=n5_
                    have HI542:=n6_
                    clear n0_ n1_ n2_ n3_ n4_ n5_ n6_
                    (try clear hb)
                    (try clear hb2)
                    (try clear hk)
                    (try clear hi)
                    refine hK.out _ _ ⟨(blk_cell BK545.out 0).trans rfl,(blk_cell BK545.out 1).trans rfl⟩ (fun hHeld=>?_)
                    clear hK K
                    refine norm_ (a':=?_) ?_ ?_
                    rotate_left
                    ·
                     show Act.put _ (some 105) _=_
                     simp only [Act.put,List.setIfInBounds_toArray,List.set_cons_zero,List.set_cons_succ,i64_w,i32_w]
                     rfl
                    refine pure_ (i:=4) (N:=some 108) (v:=?_) (a':=?_) #[true,true,true,true,true] rfl rfl (by kernel_rfl) (fun _ _ _ h=>h) (Or.inl ⟨by rfl,?_⟩) ?_ ?_
                    rotate_left
                    ·
                     intro w'
                     go_simp
                     with_reducible rfl
                    rotate_left
                    ·
                     simp only [Act.put,List.setIfInBounds_toArray,List.set_cons_zero,List.set_cons_succ,i64_w,i32_w]
                     rfl
                    refine done_ (by kernel_rfl) ?_
                    try go_wp2
                    go_roundg kj153
                    case measure=>have:=HJ3.out;have:=HK2.out;have:=HJ19.out;have:=HJ141.out;have:=HJ153.out;omega
                    case rel=>exact ⟨(wrap64 (x7_2+1)),(t586),(t587),(t588),(t572),(t573),(by first|rfl|(simp;done)|(simp [*];done)),H',⟨by have:=HJ3.out;have:=HK2.out;have:=HJ19.out;have:=HJ141.out;have:=HJ153.out;omega⟩,⟨by (with_reducible repeat (first|refine blk_drewN ?_ _|refine blk_drew ?_|refine blk_alloc ?_ _));exact BK545.out⟩,⟨by repeat (first|(with_reducible first|exact HI542.out|apply IsS130.alloc|apply IsS130.drewN|apply IsS130.drew|apply IsS130.set_0|apply IsS130.set_1|apply IsS130.set_2|refine IsS130.far ?_ NB542_545.out _|refine IsS130.far ?_ NB542_547.out _|refine IsS130.far ?_ NB542_577.out _)|exact HI542.out)⟩,⟨by repeat (first|(with_reducible first|exact HB.out|apply below_alloc|apply pw_below_drewN|apply below_drew1|refine below_set ?_ (IsS130.ge HI542.out)|refine below_set ?_ GE545.out|refine below_set ?_ GE547.out|refine below_set ?_ GE577.out)|exact HB.out)⟩⟩
                   ·
                    rw [if_neg c164] at H
                    have c164b0:(t585 == t573)=false:=beq_eq_false_iff_ne.mpr c164
                    have c164b1:(t585 != t573)=true:=bne_iff_ne.mpr c164
                    exact absurd (Option.some.inj H) (by simp)
                  ·
                   replace c162:=Bool.eq_false_iff.mpr c162
                   subst c162
                   have H1:(some false)=some true:=by rw [if_neg (show ¬ (false=true) by decide)] at H;exact H
                   clear H
                   have H:=H1
                   clear H1
                   exact absurd (Option.some.inj H) (by simp)
             ·
              rw [if_neg c141] at H
              have c141b0:(((rd_T90 l1 x7_2).f0) == 2)=false:=beq_eq_false_iff_ne.mpr c141
              have c141b1:(((rd_T90 l1 x7_2).f0) != 2)=true:=bne_iff_ne.mpr c141
              replace H:=Option.bind_eq_some_iff.mp H
              obtain ⟨⟨t589,t590,t591,t592⟩,A2200,H⟩:=H
              replace H:(if t589=x546001_2 then (mosaiclaw04_PrngDraws.l0 kj19 l1 (wrap64 (x7_2+1)) t590 t591 t592 x546000_2 x546001_2) else (some false))=some true:=H
              have A220:=Aside0.mk A2200
              clear A2200
              by_cases c221:t589=x546001_2
              ·
               rw [if_pos c221] at H
               have c221b0:(t589 == x546001_2)=true:=beq_iff_eq.mpr c221
               have c221b1:(t589 != x546001_2)=false:=bne_eq_false_iff_eq.mpr c221
               clear c221
               have H':=Aside0.mk H
               clear H
               have p546:0≤(x7_2:Int):=of_decide_eq_true (by first|(with_reducible assumption)|assumption)
               have q546:x7_2 < (l1.length:Int):=of_decide_eq_true (by first|(with_reducible assumption)|assumption)
               obtain ⟨ad546,e546,hx546_0,hx546_1,hx546_2⟩:=at_T90 HR1.out x7_2 p546 q546
               cases e546
               replace hx546_0:=(HB.out.cell (World.block_lt_of_cell? w _ hx546_0)).trans hx546_0
               replace hx546_1:=(HB.out.cell (World.block_lt_of_cell? w _ hx546_1)).trans hx546_1
               replace hx546_2:=(HB.out.cell (World.block_lt_of_cell? w _ hx546_2)).trans hx546_2
               replace p546:=eq_true p546
               replace q546:=eq_true q546
               try go_wp2_with (first|((with_reducible refine gate_dst (N:=8) rfl ?_);(try (refine gate_guard (by rfl) ?_;dsimp only));refine box_event ?hg (N:=8) ?hd (cs:=#[.int .i64 0,.int .i64 0,.int .i64 0]) (t:=90) ?hr ?_;(case hd=>rfl);(case hg=>rfl);(case hr=>first|(go_simp;done)|(go_simp;rfl));intro gb547 hg w222 hbox hb;have n0_:=Aside0.mk (blk_below (g:=gb545) (o:=.cells #[.string x546000_2,.int .i64 x546001_2] 83 (0,0)) (by (with_reducible repeat (first|refine blk_drewN ?_ _|refine blk_drew ?_|refine blk_alloc ?_ _));exact BK545.out) hb);have n1_:=Aside0.mk (IsS130.below (by repeat (first|(with_reducible first|exact HI542.out|apply IsS130.alloc|apply IsS130.drewN|apply IsS130.drew|apply IsS130.set_0|apply IsS130.set_1|apply IsS130.set_2|refine IsS130.far ?_ NB542_545.out _)|exact HI542.out)) hb);have n2_:=Aside0.mk (below_step (by repeat (first|(with_reducible first|exact HB.out|apply below_alloc|apply pw_below_drewN|apply below_drew1|refine below_set ?_ (IsS130.ge HI542.out)|refine below_set ?_ GE545.out)|exact HB.out)) hb);have n3_:=Aside0.mk (hbox);have n4_:=Aside0.mk ((by rw [hg];exact (below_size (by repeat (first|(with_reducible first|exact HB.out|apply below_alloc|apply pw_below_drewN|apply below_drew1|refine below_set ?_ (IsS130.ge HI542.out)|refine below_set ?_ GE545.out)|exact HB.out))):w.heap.size≤gb547));have n5_:=Aside0.mk ((by rw [hg];exact (below_size (by repeat (first|(with_reducible first|exact HB.out|apply below_alloc|apply pw_below_drewN|apply below_drew1|refine below_set ?_ (IsS130.ge HI542.out)|refine below_set ?_ GE545.out)|exact HB.out))):w.heap.size≤gb547));have n6_:=Aside0.mk ((by rw [hg];exact Nat.ne_of_lt (blk_lt (g:=gb545) (o:=.cells #[.string x546000_2,.int .i64 x546001_2] 83 (0,0)) (by (with_reducible repeat (first|refine blk_drewN ?_ _|refine blk_drew ?_|refine blk_alloc ?_ _));exact BK545.out)):gb545≠gb547));have n7_:=Aside0.mk ((by rw [hg];exact Nat.ne_of_gt (blk_lt (g:=gb545) (o:=.cells #[.string x546000_2,.int .i64 x546001_2] 83 (0,0)) (by (with_reducible repeat (first|refine blk_drewN ?_ _|refine blk_drew ?_|refine blk_alloc ?_ _));exact BK545.out)):gb547≠gb545));have n8_:=Aside0.mk ((by rw [hg];exact Nat.ne_of_lt (IsS130.lt (show IsS130 w _ g542 x543000_2 x543001_2 x543002_2 from by repeat (first|(with_reducible first|exact HI542.out|apply IsS130.alloc|apply IsS130.drewN|apply IsS130.drew|apply IsS130.set_0|apply IsS130.set_1|apply IsS130.set_2|refine IsS130.far ?_ NB542_545.out _)|exact HI542.out))):g542≠gb547));have n9_:=Aside0.mk ((by rw [hg];exact Nat.ne_of_gt (IsS130.lt (show IsS130 w _ g542 x543000_2 x543001_2 x543002_2 from by repeat (first|(with_reducible first|exact HI542.out|apply IsS130.alloc|apply IsS130.drewN|apply IsS130.drew|apply IsS130.set_0|apply IsS130.set_1|apply IsS130.set_2|refine IsS130.far ?_ NB542_545.out _)|exact HI542.out))):gb547≠g542));clear BK545;clear HI542;clear HB;have BK545:=n0_;have HI542:=n1_;have HB:=n2_;have BK547:=n3_;have GW547:=n4_;have GE547:=n5_;have NB545_547:=n6_;have NB547_545:=n7_;have NB542_547:=n8_;have NB547_542:=n9_;clear n0_ n1_ n2_ n3_ n4_ n5_ n6_ n7_ n8_ n9_;clear hb hbox hg;have hnb223:=NB547_545.out;have hnc223:=NB545_547.out;have hnb224:=NB547_542.out;have hnc224:=NB542_547.out;have hcz225_0:w222.cell? ⟨gb547,0,none⟩=some (.int .i64 0):=(blk_cell BK547.out 0).trans rfl;have hcz225_1:w222.cell? ⟨gb547,1,none⟩=some (.int .i64 0):=(blk_cell BK547.out 1).trans rfl;have hcz225_2:w222.cell? ⟨gb547,2,none⟩=some (.int .i64 0):=(blk_cell BK547.out 2).trans rfl;have hfz225_0:=blk_frozen BK547.out 0;have hfz225_1:=blk_frozen BK547.out 1;have hfz225_2:=blk_frozen BK547.out 2))
               have n0_:Aside0 ((((w222.setCell ⟨gb547,0,none⟩ (.int .i64 ((rd_T90 l1 x7_2).f0))).setCell ⟨gb547,1,none⟩ (.int .i64 ((rd_T90 l1 x7_2).f1))).setCell ⟨gb547,2,none⟩ (.int .i64 ((rd_T90 l1 x7_2).f2))).heap[gb545]?=some (.cells #[.string x546000_2,.int .i64 x546001_2] 83 (0,0))):=⟨by (with_reducible repeat (first|refine blk_drewN ?_ _|refine blk_drew ?_|refine blk_alloc ?_ _));refine blk_far ?_ NB545_547.out _;(with_reducible repeat (first|refine blk_drewN ?_ _|refine blk_drew ?_|refine blk_alloc ?_ _));refine blk_far ?_ NB545_547.out _;(with_reducible repeat (first|refine blk_drewN ?_ _|refine blk_drew ?_|refine blk_alloc ?_ _));refine blk_far ?_ NB545_547.out _;(with_reducible repeat (first|refine blk_drewN ?_ _|refine blk_drew ?_|refine blk_alloc ?_ _));exact BK545.out⟩
               have n1_:Aside0 ((((w222.setCell ⟨gb547,0,none⟩ (.int .i64 ((rd_T90 l1 x7_2).f0))).setCell ⟨gb547,1,none⟩ (.int .i64 ((rd_T90 l1 x7_2).f1))).setCell ⟨gb547,2,none⟩ (.int .i64 ((rd_T90 l1 x7_2).f2))).heap[gb547]?=some (.cells #[.int .i64 ((rd_T90 l1 x7_2).f0),.int .i64 ((rd_T90 l1 x7_2).f1),.int .i64 ((rd_T90 l1 x7_2).f2)] 90 (0,0))):=⟨by (with_reducible repeat (first|refine blk_drewN ?_ _|refine blk_drew ?_|refine blk_alloc ?_ _));refine blk_put (cs:=#[.int .i64 ((rd_T90 l1 x7_2).f0),.int .i64 ((rd_T90 l1 x7_2).f1),.int .i64 0]) ?_ 2 _ rfl;(with_reducible repeat (first|refine blk_drewN ?_ _|refine blk_drew ?_|refine blk_alloc ?_ _));refine blk_put (cs:=#[.int .i64 ((rd_T90 l1 x7_2).f0),.int .i64 0,.int .i64 0]) ?_ 1 _ rfl;(with_reducible repeat (first|refine blk_drewN ?_ _|refine blk_drew ?_|refine blk_alloc ?_ _));refine blk_put (cs:=#[.int .i64 0,.int .i64 0,.int .i64 0]) ?_ 0 _ rfl;(with_reducible repeat (first|refine blk_drewN ?_ _|refine blk_drew ?_|refine blk_alloc ?_ _));exact BK547.out⟩
               have n2_:Aside0 (IsS130 w (((w222.setCell ⟨gb547,0,none⟩ (.int .i64 ((rd_T90 l1 x7_2).f0))).setCell ⟨gb547,1,none⟩ (.int .i64 ((rd_T90 l1 x7_2).f1))).setCell ⟨gb547,2,none⟩ (.int .i64 ((rd_T90 l1 x7_2).f2))) g542 x543000_2 x543001_2 x543002_2):=⟨by repeat (first|(with_reducible first|exact HI542.out|apply IsS130.alloc|apply IsS130.drewN|apply IsS130.drew|apply IsS130.set_0|apply IsS130.set_1|apply IsS130.set_2|refine IsS130.far ?_ NB542_545.out _|refine IsS130.far ?_ NB542_547.out _)|exact HI542.out)⟩
               have n3_:Aside0 (Below w.heap.size w (((w222.setCell ⟨gb547,0,none⟩ (.int .i64 ((rd_T90 l1 x7_2).f0))).setCell ⟨gb547,1,none⟩ (.int .i64 ((rd_T90 l1 x7_2).f1))).setCell ⟨gb547,2,none⟩ (.int .i64 ((rd_T90 l1 x7_2).f2)))):=⟨by repeat (first|(with_reducible first|exact HB.out|apply below_alloc|apply pw_below_drewN|apply below_drew1|refine below_set ?_ (IsS130.ge HI542.out)|refine below_set ?_ GE545.out|refine below_set ?_ GE547.out)|exact HB.out)⟩
               (try clear BK545)
               (try clear BK547)
               (try clear HI542)
               (try clear HB)
               generalize (((w222.setCell ⟨gb547,0,none⟩ (.int .i64 ((rd_T90 l1 x7_2).f0))).setCell ⟨gb547,1,none⟩ (.int .i64 ((rd_T90 l1 x7_2).f1))).setCell ⟨gb547,2,none⟩ (.int .i64 ((rd_T90 l1 x7_2).f2)))=w226 at n0_ n1_ n2_ n3_ ⊢
               have BK545:=n0_
               have BK547:=n1_
               have HI542:=n2_
               have HB:=n3_
               clear n0_ n1_ n2_ n3_
               have n0_:=Aside0.mk (blk_drew BK545.out)
               have n1_:=Aside0.mk (blk_drew BK547.out)
               have n2_:=Aside0.mk (IsS130.drew HI542.out)
               have n3_:=Aside0.mk (below_drew1 HB.out)
               clear BK545
               clear BK547
               clear HI542
               clear HB
               have BK545:=n0_
               have BK547:=n1_
               have HI542:=n2_
               have HB:=n3_
               clear n0_ n1_ n2_ n3_
               refine start_ (n:=5) (S:=fun w'=>w'.cell? ⟨gb545,0,none⟩=some (.string x546000_2)∧w'.cell? ⟨gb545,1,none⟩=some (.int .i64 x546001_2)) (ds:=[]) #[false,false,false,false,false] (by kernel_rfl) rfl rfl ⟨(blk_cell BK545.out 0).trans rfl,(blk_cell BK545.out 1).trans rfl⟩ (fun hHeld=>?_)
               generalize w226.drew=w227 at BK545 BK547 HI542 HB hHeld ⊢
               refine pure_ (i:=0) (N:=some 104) (v:=?_) (a':=?_) #[true,false,false,false,false] rfl rfl (by kernel_rfl) (fun _ _ _ h=>h) (Or.inl ⟨by rfl,?_⟩) ?_ ?_
               rotate_left
               ·
                intro w'
                go_simp
                with_reducible rfl
               rotate_left
               ·
                simp only [Act.put,List.setIfInBounds_toArray,List.set_cons_zero,List.set_cons_succ,i64_w,i32_w]
                rfl
               refine pure_ (i:=2) (N:=some 106) (v:=?_) (a':=?_) #[true,false,true,false,false] rfl rfl (by kernel_rfl) (fun _ _ _ h=>h) (Or.inl ⟨by rfl,?_⟩) ?_ ?_
               rotate_left
               ·
                intro w'
                go_simp
                with_reducible rfl
               rotate_left
               ·
                simp only [Act.put,List.setIfInBounds_toArray,List.set_cons_zero,List.set_cons_succ,i64_w,i32_w]
                rfl
               refine take_ (i:=3) (N:=some 107) (v:=?_) (a':=?_) #[true,false,true,true,false] rfl rfl (by kernel_rfl) (fun _ _ _ h=>h) (Or.inl ⟨by rfl,?_⟩) hHeld ?_ ?_
               rotate_left
               ·
                rintro w' ⟨s0,s1⟩
                go_simp
                with_reducible rfl
               rotate_left
               ·
                simp only [Act.put,List.setIfInBounds_toArray,List.set_cons_zero,List.set_cons_succ,i64_w,i32_w]
                rfl
               refine one_ (i:=1) (N:=some 105) #[true,true,true,true,false] rfl rfl (by kernel_rfl) (by decide) (fun K hK=>?_)
               refine goes_ Try.func68 (by kernel_rfl) rfl #[.pointer (some ⟨g542,0,none⟩)] (by rfl) rfl rfl (by (try simp only [List.map_toArray,List.map_cons,List.map_nil]);first|done|rfl|(simp only [List.length_drop,List.length_take];rfl)) ?_
               with_reducible refine (prng_Gen_Used.calls g542 x543000_2 x543001_2 x543002_2 t589 t590 t591 t592 w _ ?side1 ?side2 A220.out).mono ?_
               (case side1=>repeat (first|(with_reducible first|exact HI542.out|apply IsS130.alloc|apply IsS130.drewN|apply IsS130.drew|apply IsS130.set_0|apply IsS130.set_1|apply IsS130.set_2|refine IsS130.far ?_ NB542_545.out _|refine IsS130.far ?_ NB542_547.out _)|exact HI542.out))
               (case side2=>repeat (first|(with_reducible first|exact HB.out|apply below_alloc|apply pw_below_drewN|apply below_drew1|refine below_set ?_ (IsS130.ge HI542.out)|refine below_set ?_ GE545.out|refine below_set ?_ GE547.out)|exact HB.out))
               rintro e w228 ⟨rfl,hi,hb,hk⟩
               refine ⟨_,rfl,?_⟩
               have n0_:=Aside0.mk (KeepBut.blk hk (g':=gb545) (o:=.cells #[.string x546000_2,.int .i64 x546001_2] 83 (0,0)) (by (with_reducible repeat (first|refine blk_drewN ?_ _|refine blk_drew ?_|refine blk_alloc ?_ _));exact BK545.out) NB545_542.out (by simp))
               have n1_:=Aside0.mk (KeepBut.blk hk (g':=gb547) (o:=.cells #[.int .i64 ((rd_T90 l1 x7_2).f0),.int .i64 ((rd_T90 l1 x7_2).f1),.int .i64 ((rd_T90 l1 x7_2).f2)] 90 (0,0)) (by (with_reducible repeat (first|refine blk_drewN ?_ _|refine blk_drew ?_|refine blk_alloc ?_ _));exact BK547.out) NB547_542.out (by simp))
               have n2_:=Aside0.mk (hb)
               have n3_:=Aside0.mk (hi)
               clear BK545
               clear BK547
               clear HB
               clear HI542
               have BK545:=n0_
               have BK547:=n1_
               have HB:=n2_
               have HI542:=n3_
               clear n0_ n1_ n2_ n3_
               (try clear hb)
               (try clear hb2)
               (try clear hk)
               (try clear hi)
               refine hK.out _ _ ⟨(blk_cell BK545.out 0).trans rfl,(blk_cell BK545.out 1).trans rfl⟩ (fun hHeld=>?_)
               clear hK K
               refine norm_ (a':=?_) ?_ ?_
               rotate_left
               ·
                show Act.put _ (some 105) _=_
                simp only [Act.put,List.setIfInBounds_toArray,List.set_cons_zero,List.set_cons_succ,i64_w,i32_w]
                rfl
               refine pure_ (i:=4) (N:=some 108) (v:=?_) (a':=?_) #[true,true,true,true,true] rfl rfl (by kernel_rfl) (fun _ _ _ h=>h) (Or.inl ⟨by rfl,?_⟩) ?_ ?_
               rotate_left
               ·
                intro w'
                go_simp
                with_reducible rfl
               rotate_left
               ·
                simp only [Act.put,List.setIfInBounds_toArray,List.set_cons_zero,List.set_cons_succ,i64_w,i32_w]
                rfl
               refine done_ (by kernel_rfl) ?_
               try go_wp2
               go_roundg kj19
               case measure=>have:=HJ3.out;have:=HK2.out;have:=HJ19.out;omega
               case rel=>exact ⟨(wrap64 (x7_2+1)),(t590),(t591),(t592),(x546000_2),(x546001_2),(by first|rfl|(simp;done)|(simp [*];done)),H',⟨by have:=HJ3.out;have:=HK2.out;have:=HJ19.out;omega⟩,⟨by (with_reducible repeat (first|refine blk_drewN ?_ _|refine blk_drew ?_|refine blk_alloc ?_ _));exact BK545.out⟩,⟨by repeat (first|(with_reducible first|exact HI542.out|apply IsS130.alloc|apply IsS130.drewN|apply IsS130.drew|apply IsS130.set_0|apply IsS130.set_1|apply IsS130.set_2|refine IsS130.far ?_ NB542_545.out _|refine IsS130.far ?_ NB542_547.out _)|exact HI542.out)⟩,⟨by repeat (first|(with_reducible first|exact HB.out|apply below_alloc|apply pw_below_drewN|apply below_drew1|refine below_set ?_ (IsS130.ge HI542.out)|refine below_set ?_ GE545.out|refine below_set ?_ GE547.out)|exact HB.out)⟩⟩
              ·
               rw [if_neg c221] at H
               have c221b0:(t589 == x546001_2)=false:=beq_eq_false_iff_ne.mpr c221
               have c221b1:(t589 != x546001_2)=true:=bne_iff_ne.mpr c221
               exact absurd (Option.some.inj H) (by simp)
          ·
           rw [if_neg c24] at H
           exact absurd H (by simp)
         ·
          rw [if_neg c23] at H
          exact absurd H (by simp)
        ·
         replace c22:=Bool.eq_false_iff.mpr c22
         subst c22
         have H1:(some true)=some true:=rfl
         clear H
         have H:=H1
         clear H1
         clear H
         go_wp2
         go_ret
         exact ⟨by first|rfl|(simp [errW_none,errW_some] <;> rfl)|(simp [*,errW_none,errW_some] <;> rfl),by repeat (first|(with_reducible first|exact HB.out|apply below_alloc|apply pw_below_drewN|apply below_drew1|refine below_set ?_ (IsS130.ge HI542.out)|refine below_set ?_ GE545.out)|exact HB.out)⟩
end Go.Proofs.Ytelcaepenfjloaa.Print
/-! #### MaPrngNil -/
/- A nil generator; the laws of prng at a seed that is too long. -/
namespace Go.Proofs.Ytelcaepenfjloaa.Print
open Go.RowKit Go.Proofs.YtelcaepenfjloaaW.PrintWords Go.Proofs.YtelcaepenfjloaaW.PrintLast Go.Proofs.YtelcaepenfjloaaW.PrintMore
set_option linter.unusedVariables false
set_option linter.unusedSimpArgs false
theorem new_nil_calls (s:ByteArray) (h:64 < (s.size:Int)) (w:World):Calls Try.prog 62 #[.string s] w fun e w'=>e=.returned (.pointer none)∧Below w.heap.size w w':=by
 have HB:=Aside0.mk (Below.refl w.heap.size w)
 go_enter Try.func62,Try.ntmps62
 go_wp2
 go_ret
 exact ⟨rfl,by repeat (first|(with_reducible first|exact HB.out|apply below_alloc|apply pw_below_drewN|apply below_drew1)|exact HB.out)⟩
theorem nil_word_calls (w:World):Calls Try.prog 67 #[.pointer none] w fun e w'=>e=.returned (.int .u32 0)∧Below w.heap.size w w':=by
 have HB:=Aside0.mk (Below.refl w.heap.size w)
 go_enter Try.func67,Try.ntmps67
 go_wp2
 go_ret
 exact ⟨rfl,by repeat (first|(with_reducible first|exact HB.out|apply below_alloc|apply pw_below_drewN|apply below_drew1)|exact HB.out)⟩
theorem nil_used_calls (w:World):Calls Try.prog 68 #[.pointer none] w fun e w'=>e=.returned (.int .i64 0)∧Below w.heap.size w w':=by
 have HB:=Aside0.mk (Below.refl w.heap.size w)
 go_enter Try.func68,Try.ntmps68
 go_wp2
 go_ret
 exact ⟨rfl,by repeat (first|(with_reducible first|exact HB.out|apply below_alloc|apply pw_below_drewN|apply below_drew1)|exact HB.out)⟩
theorem nil_below_calls (n:Int) (w:World):Calls Try.prog 70 #[.pointer none,.int .i64 n] w fun e w'=>e=.returned (.int .i64 0)∧Below w.heap.size w w':=by
 have HB:=Aside0.mk (Below.refl w.heap.size w)
 go_enter Try.func70,Try.ntmps70
 go_wp2
 go_ret
 exact ⟨rfl,by repeat (first|(with_reducible first|exact HB.out|apply below_alloc|apply pw_below_drewN|apply below_drew1)|exact HB.out)⟩
theorem nil_pick_calls (n k:Int) (w:World):Calls Try.prog 63 #[.pointer none,.int .i64 n,.int .i64 k] w fun e w'=>e=.returned (.slice none 0 0)∧Below w.heap.size w w':=by
 have HB:=Aside0.mk (Below.refl w.heap.size w)
 go_enter Try.func63,Try.ntmps63
 go_wp2
 go_ret
 exact ⟨rfl,by repeat (first|(with_reducible first|exact HB.out|apply below_alloc|apply pw_below_drewN|apply below_drew1)|exact HB.out)⟩
def mosaiclaw04_PrngNil.f (k:Nat) (a0 a1:Int):Option Bool:=if mosaiclaw04_awake.f k=some true then some true else none
theorem mosaiclaw04_PrngNil.calls (k:Nat) (a0 a1:Int) (r:Bool) (w:World) (h:mosaiclaw04_PrngNil.f k a0 a1=some r) :
  Calls Try.prog 19 #[.int .i64 a0,.int .i64 a1] w fun e w'=>e=.returned (.bool r)∧Below w.heap.size w w':=by
 unfold mosaiclaw04_PrngNil.f at h
 split at h
 case isFalse=>exact absurd h (by simp)
 rename_i hA
 obtain rfl:=Option.some.inj h
 have HA:=Aside0.mk hA
 clear h hA
 have HB:=Aside0.mk (Below.refl w.heap.size w)
 go_enter Try.func19,Try.ntmps19
 go_wp2_with (first|(go_at_call 59;refine (mosaiclaw04_awake.calls k true _ HA.out).mono ?_;rintro e w1 ⟨rfl,hb⟩;have n0_:=Aside0.mk (below_step (by repeat (first|(with_reducible first|exact HB.out|apply below_alloc|apply pw_below_drewN|apply below_drew1)|exact HB.out)) hb);clear HB;have HB:=n0_;clear n0_ hb)|(go_at_call 67;refine (nil_word_calls _).mono ?_;rintro e w2 ⟨rfl,hb⟩;have n0_:=Aside0.mk (below_step (by repeat (first|(with_reducible first|exact HB.out|apply below_alloc|apply pw_below_drewN|apply below_drew1)|exact HB.out)) hb);clear HB;have HB:=n0_;clear n0_ hb)|(go_at_call 68;refine (nil_used_calls _).mono ?_;rintro e w3 ⟨rfl,hb⟩;have n0_:=Aside0.mk (below_step (by repeat (first|(with_reducible first|exact HB.out|apply below_alloc|apply pw_below_drewN|apply below_drew1)|exact HB.out)) hb);clear HB;have HB:=n0_;clear n0_ hb)|(go_at_call 70;refine (nil_below_calls _ _).mono ?_;rintro e w4 ⟨rfl,hb⟩;have n0_:=Aside0.mk (below_step (by repeat (first|(with_reducible first|exact HB.out|apply below_alloc|apply pw_below_drewN|apply below_drew1)|exact HB.out)) hb);clear HB;have HB:=n0_;clear n0_ hb)|(go_at_call 63;refine (nil_pick_calls _ _ _).mono ?_;rintro e w5 ⟨rfl,hb⟩;have n0_:=Aside0.mk (below_step (by repeat (first|(with_reducible first|exact HB.out|apply below_alloc|apply pw_below_drewN|apply below_drew1)|exact HB.out)) hb);clear HB;have HB:=n0_;clear n0_ hb))
 go_ret
 exact ⟨rfl,by repeat (first|(with_reducible first|exact HB.out|apply below_alloc|apply pw_below_drewN|apply below_drew1)|exact HB.out)⟩
def mosaiclaw04_PrngDrawsW.f (k:Nat) (a0:ByteArray) (l1:List S90):Option Bool:=if 64 < (a0.size:Int) then (if mosaiclaw04_awake.f k=some true then some true else none) else mosaiclaw04_PrngDraws.f k a0 l1
theorem mosaiclaw04_PrngDrawsW.callsT (k:Nat) (a0:ByteArray) (A1:Option Addr) (c1:Nat) (l1:List S90) (w:World) (hr1:Kd.C k90 w A1 l1.length l1) (hc1:l1.length≤c1) (h:mosaiclaw04_PrngDrawsW.f k a0 l1=some true) :
  Calls Try.prog 17 #[.string a0,.slice A1 l1.length c1] w fun e w'=>e=.returned (.bool true)∧Below w.heap.size w w':=by
 unfold mosaiclaw04_PrngDrawsW.f at h
 split at h
 case isFalse=>exact mosaiclaw04_PrngDraws.callsT k a0 A1 c1 l1 w hr1 hc1 h
 rename_i hlong
 split at h
 case isFalse=>exact absurd h (by simp)
 rename_i hA
 have HA:=Aside0.mk hA
 have HNN:=Aside0.mk hlong
 clear h hA hr1 hc1
 have HB:=Aside0.mk (Below.refl w.heap.size w)
 go_enter Try.func17,Try.ntmps17
 go_wp2_with (first|(go_at_call 59;refine (mosaiclaw04_awake.calls k true _ HA.out).mono ?_;rintro e w1 ⟨rfl,hb⟩;have n0_:=Aside0.mk (below_step (by repeat (first|(with_reducible first|exact HB.out|apply below_alloc|apply pw_below_drewN|apply below_drew1)|exact HB.out)) hb);clear HB;have HB:=n0_;clear n0_ hb)|(go_at_call 62;refine (new_nil_calls _ HNN.out _).mono ?_;rintro e w2 ⟨rfl,hb⟩;have n0_:=Aside0.mk (below_step (by repeat (first|(with_reducible first|exact HB.out|apply below_alloc|apply pw_below_drewN|apply below_drew1)|exact HB.out)) hb);clear HB;have HB:=n0_;clear n0_ hb))
 go_ret
 exact ⟨rfl,by repeat (first|(with_reducible first|exact HB.out|apply below_alloc|apply pw_below_drewN|apply below_drew1)|exact HB.out)⟩
def mosaiclaw04_PrngBlocksW.f (k:Nat) (a0:ByteArray) (a1 a2:Int):Option Bool:=if 64 < (a0.size:Int)∧(a0.size:Int)≤100 then (if mosaiclaw04_awake.f k=some true∧prng_Block.f k a0 a1=some ⟨#[]⟩∧mosaicref04_Block.f k a0 a1=some ⟨#[]⟩ then some true else none) else mosaiclaw04_PrngBlocks.f k a0 a1 a2
theorem mosaiclaw04_PrngBlocksW.callsT (k:Nat) (a0:ByteArray) (a1 a2:Int) (w:World) (h:mosaiclaw04_PrngBlocksW.f k a0 a1 a2=some true) :
  Calls Try.prog 16 #[.string a0,.int .i64 a1,.int .i64 a2] w fun e w'=>e=.returned (.bool true)∧Below w.heap.size w w':=by
 unfold mosaiclaw04_PrngBlocksW.f at h
 split at h
 case isFalse=>exact mosaiclaw04_PrngBlocks.callsT k a0 a1 a2 w h
 rename_i hlong
 split at h
 case isFalse=>exact absurd h (by simp)
 rename_i hA
 obtain ⟨h64,h100⟩:=hlong
 have HA:=Aside0.mk hA
 have HNN:=Aside0.mk h64
 clear h hA
 have HB:=Aside0.mk (Below.refl w.heap.size w)
 go_enter Try.func16,Try.ntmps16
 go_wp2_with (first|(go_at_call 59;refine (mosaiclaw04_awake.calls k true _ HA.out.1).mono ?_;rintro e w1 ⟨rfl,hb⟩;have n0_:=Aside0.mk (below_step (by repeat (first|(with_reducible first|exact HB.out|apply below_alloc|apply pw_below_drewN|apply below_drew1)|exact HB.out)) hb);clear HB;have HB:=n0_;clear n0_ hb)|(go_at_call 62;refine (new_nil_calls _ HNN.out _).mono ?_;rintro e w2 ⟨rfl,hb⟩;have n0_:=Aside0.mk (below_step (by repeat (first|(with_reducible first|exact HB.out|apply below_alloc|apply pw_below_drewN|apply below_drew1)|exact HB.out)) hb);clear HB;have HB:=n0_;clear n0_ hb)|(go_at_call 64;refine (prng_Block.calls k _ _ _ _ HA.out.2.1).mono ?_;rintro e w3 ⟨rfl,hb⟩;have n0_:=Aside0.mk (below_step (by repeat (first|(with_reducible first|exact HB.out|apply below_alloc|apply pw_below_drewN|apply below_drew1)|exact HB.out)) hb);clear HB;have HB:=n0_;clear n0_ hb)|(go_at_call 65;refine (mosaicref04_Block.calls k _ _ _ _ HA.out.2.2).mono ?_;rintro e w4 ⟨rfl,hb⟩;have n0_:=Aside0.mk (below_step (by repeat (first|(with_reducible first|exact HB.out|apply below_alloc|apply pw_below_drewN|apply below_drew1)|exact HB.out)) hb);clear HB;have HB:=n0_;clear n0_ hb))
 go_loopg [9] 0 (fun gg v9 wr=>v9=.int .i64 0∧Aside0 (Below w.heap.size w wr))
 case atStart=>exact ⟨rfl,⟨by repeat (first|(with_reducible first|exact HB.out|apply below_alloc|apply pw_below_drewN|apply below_drew1)|exact HB.out)⟩⟩
 case round =>
  clear HB
  obtain ⟨rfl,HB⟩:=hrel
  go_wp2
  go_ret
  exact ⟨rfl,by repeat (first|(with_reducible first|exact HB.out|apply below_alloc|apply pw_below_drewN|apply below_drew1)|exact HB.out)⟩
end Go.Proofs.Ytelcaepenfjloaa.Print
/-! #### MaPrngBelow2 -/
/- The law PrngBelow, by hand: the walk. -/
namespace Go.Proofs.Ytelcaepenfjloaa.Print
open Go.RowKit Go.Proofs.YtelcaepenfjloaaW.PrintWords Go.Proofs.YtelcaepenfjloaaW.PrintLast Go.Proofs.YtelcaepenfjloaaW.PrintMore
open Go.Proofs.Ytelcaepenfjloaa.Pure (GenI belowP belowP_range below_ev word_ev wordI wordI_range wsL wsL_length wsL_U32 U32 chG chG_range chG_pos chooseP choose_ev bndN awake04 new_f used_f)
set_option linter.unusedVariables false
set_option linter.unusedSimpArgs false
set_option maxHeartbeats 4000000 in
set_option maxRecDepth 100000 in
theorem mosaiclaw04_PrngBelow.calls (a0:ByteArray) (A1:Option Addr) (c1:Nat) (l1:List Int) (r:Bool) (w:World) (hr1:Kd.C (Kd.int .i64) w A1 l1.length l1) (hc1:l1.length≤c1) (h:mosaiclaw04_PrngBelow.f a0 l1=some r) :
  Calls Try.prog 18 #[.string a0,.slice A1 l1.length c1] w fun e w'=>e=.returned (.bool r)∧Below w.heap.size w w':=by
 obtain rfl:=Option.some.inj (show some true=some r from h)
 clear h
 obtain ⟨ka,hka⟩:=awake04.rounds
 have HA:=Aside0.mk hka
 clear hka
 have HR:=Aside0.mk hr1
 clear hr1
 have HB:=Aside0.mk (Below.refl w.heap.size w)
 by_cases h64:64 < (a0.size:Int)
 ·
  have HNN:=Aside0.mk h64
  go_enter Try.func18,Try.ntmps18
  go_wp2_with (first|(go_at_call 59;refine (mosaiclaw04_awake.calls ka true _ HA.out).mono ?_;rintro e w1 ⟨rfl,hb⟩;have n0_:=Aside0.mk (below_step (by repeat (first|(with_reducible first|exact HB.out|apply below_alloc|apply pw_below_drewN|apply below_drew1)|exact HB.out)) hb);clear HB;have HB:=n0_;clear n0_ hb)|(go_at_call 62;refine (new_nil_calls _ HNN.out _).mono ?_;rintro e w2 ⟨rfl,hb⟩;have n0_:=Aside0.mk (below_step (by repeat (first|(with_reducible first|exact HB.out|apply below_alloc|apply pw_below_drewN|apply below_drew1)|exact HB.out)) hb);clear HB;have HB:=n0_;clear n0_ hb))
  go_ret
  exact ⟨rfl,by repeat (first|(with_reducible first|exact HB.out|apply below_alloc|apply pw_below_drewN|apply below_drew1)|exact HB.out)⟩
 have hsz:a0.size≤64:=by omega
 go_enter Try.func18,Try.ntmps18
 go_wp2_with fail
 refine (prng_New.calls a0 _ _ _ _ _ HB.out (new_f a0 hsz)).mono ?_
 rintro e W1 ⟨g,rfl,hi,hb1,hb2⟩
 have HI:=Aside0.mk hi
 have HB1:=Aside0.mk hb1
 clear hi hb1 hb2 HB
 go_wp2_with fail
 refine (prng_New.calls a0 _ _ _ _ _ (Below.refl W1.heap.size W1) (new_f a0 hsz)).mono ?_
 rintro e W2 ⟨g2,rfl,hi,hb1,hb2⟩
 have HT:=Aside0.mk (show TwoG w W2 g g2 a0 0 0 ⟨#[]⟩ ⟨#[]⟩ from ⟨IsS130.below HI.out hb2,⟨hi.1,Nat.le_trans HB1.out.size hi.2⟩,GenI.start a0 hsz _,GenI.start a0 hsz _,Nat.ne_of_lt (Nat.lt_of_lt_of_le (IsS130.lt HI.out) hi.2),below_step HB1.out hb2⟩)
 clear hi hb1 hb2 HI HB1 hsz h64
 go_wp2_with (go_at_call 59;refine (mosaiclaw04_awake.calls ka true _ HA.out).mono ?_;rintro e W3 ⟨rfl,hb⟩;have n0_:=Aside0.mk (HT.out.below hb);clear HT hb;have HT:=n0_;clear n0_)
 go_loopg [7] 31 (fun gg v7 wr=>∃ (i:Nat) (u:Int) (b1 b2:ByteArray),v7=.int .i64 i∧Aside0 (i+gg=31)∧Aside0 (0≤u∧u≤8 * i)∧Aside0 (TwoG w wr g g2 a0 u u b1 b2))
 case atStart=>exact ⟨0,0,_,_,rfl,⟨rfl⟩,⟨by omega⟩,HT⟩
 case round =>
  clear HT
  obtain ⟨i,u,b1,b2,rfl,HG,HU,HT⟩:=hrel
  by_cases hlt:(i:Int) < (l1.length:Int)
  ·
   by_cases h30:(i:Int) < 30
   ·
    obtain ⟨gg,rfl⟩:∃ m,gk=m+1:=⟨gk - 1,by have:=HG.out;omega⟩
    obtain ⟨ad,hA,hx⟩:=Kd.at_int HR.out (i:Int) (by omega) hlt
    rw [Int.toNat_natCast] at hx
    subst hA
    generalize rd l1 (i:Int)=n at hx
    have HX:=Aside0.mk hx
    clear hx
    have hx:wr.cell? (ad.add i)=some (.int .i64 n):=(HT.out.bel.cell (World.block_lt_of_cell? w _ HX.out)).trans HX.out
    have hbr:=belowP_range a0 u n HT.out.g1.1 HU.out.1 (by have:=HU.out;omega)
    have hch:1≤n→n≤2147483647→∀ c:Nat,(belowP a0 u n).2=c→chooseP (wsL a0 u c) n=belowP a0 u n:=fun h1 h2 c hc=>below_choose a0 u n HT.out.g1.1 HU.out.1 (by have:=HU.out;omega) h1 h2 c hc
    have hbd:¬ (1≤n∧n≤2147483647)→belowP a0 u n=(0,0):=below_bad a0 u n
    go_wp2_with fail
    refine HT.out.used1.mono ?_
    rintro e W4 ⟨rfl,HT4,hk⟩
    clear hk
    have hx:W4.cell? (ad.add i)=some (.int .i64 n):=(HT4.out.bel.cell (World.block_lt_of_cell? w _ HX.out)).trans HX.out
    go_wp2_with fail
    refine (HT4.out.below1 n (by have:=HU.out;omega)).mono ?_
    rintro e W5 ⟨rfl,hk,b3,HT5⟩
    clear hk HT4 HT
    generalize belowP a0 u n=d at hbr hch hbd HT5 ⊢
    obtain ⟨v,c⟩:=d
    simp only [] at hbr hch hbd HT5
    obtain ⟨cnt,rfl⟩:=Int.eq_ofNat_of_zero_le hbr.2.2.1
    have hx:W5.cell? (ad.add i)=some (.int .i64 n):=(HT5.out.bel.cell (World.block_lt_of_cell? w _ HX.out)).trans HX.out
    have HBR:=Aside0.mk hbr
    have HCH:=Aside0.mk hch
    have HBD:=Aside0.mk hbd
    clear hbr hch hbd
    go_wp2_with fail
    go_loopg [10] 9 (fun gg v10 wr=>∃ (j:Nat) (b:ByteArray),Aside0 (j+gg=9)∧Aside0 (j≤cnt)∧Aside0 (Kd.R (Kd.int .u32) 27 wr w.heap.size (fun k=>k≠g∧k≠g2) v10 (wsL a0 u j))∧Aside0 (TwoG w wr g g2 a0 (u+cnt) (u+j) b3 b))
    case atStart=>exact ⟨0,b2,⟨rfl⟩,⟨Nat.zero_le _⟩,⟨Kd.R_nil _ _ _ _ _⟩,⟨by simpa using HT5.out⟩⟩
    case round =>
     clear HT5 hx
     rename_i v10
     obtain ⟨j,b,HJ,HJC,HO,HT⟩:=hrel
     obtain ⟨Ao,co,hv⟩:=Kd.R_slice HO.out
     rw [wsL_length] at hv
     subst hv
     by_cases hjc:j < cnt
     ·
      have hjz:u+(j:Int) < u+(cnt:Int):=by omega
      have hj20:(j:Int) < 20:=by have:=HBR.out;omega
      obtain ⟨g3,rfl⟩:∃ m,gk=m+1:=⟨gk - 1,by have:=HJ.out;have:=HBR.out;omega⟩
      go_wp2_with fail
      refine HT.out.used2.mono ?_
      rintro e W6 ⟨rfl,HT6,hk⟩
      have HO6:=Aside0.mk (Kd.R_keep HO.out hk (fun _ h=>h.2))
      clear hk HO HT
      go_wp2_with fail
      refine HT6.out.used1.mono ?_
      rintro e W7 ⟨rfl,HT7,hk⟩
      have HO7:=Aside0.mk (Kd.R_keep HO6.out hk (fun _ h=>h.1))
      clear hk HO6 HT6
      go_wp2_with fail
      refine (HT7.out.word2 (by have:=HU.out;have:=HJC.out;have:=HBR.out;have:=HG.out;omega)).mono ?_
      rintro e W8 ⟨rfl,hk,b4,HT8⟩
      have HO8:=Aside0.mk (Kd.R_keep HO7.out hk (fun _ h=>h.2))
      have HF8:=Aside0.mk (show ∀ k,W8.heap.size≤k→k≠g∧k≠g2 from fun k hk=>⟨fun e=>absurd (IsS130.lt HT8.out.one) (by omega),fun e=>absurd (IsS130.lt HT8.out.two) (by omega)⟩)
      have hsn:=wsL_snoc a0 j u
      generalize wordI a0 (u+(j:Int))=x at hsn ⊢
      have HSN:=Aside0.mk hsn
      clear hk HO7 HT7 hsn
      go_wp2_with (first
       | ((with_reducible refine gate_dst (N:=64) rfl ?_);refine Kd.R_lit (Kd.int .u32) w.heap.size 27 ?hg (N:=64) ?hd (xs:=[x]) (inner:=[.int .u32 x]) (ok:=fun k=>W8.heap.size≤k) (okp:=fun _=>False) ?hr ?hp (fun _ hk=>hk.elim) (Nat.le_refl _) HT8.out.bel HT8.out.bel.size (by simp) ?_;(case hd=>rfl);(case hg=>rfl);(case hr=>first|(go_simp;done)|(go_simp;rfl));(case hp=>exact (Reps.one (show Kd.M (Kd.int .u32) _ _ _ x [.int .u32 x] from rfl) (Reps.none _ _)));intro v9 W9 ho9 hb9 hg9 hn9;have HO9:=Aside0.mk ho9;have HT9:=Aside0.mk (HT8.out.grown hg9 (by simp) (by simp) hb9);have HOw:=Aside0.mk (Kd.R_grown HO8.out hg9 (fun _ _ h=>by simp at h));have HS9:=Aside0.mk hg9.size;clear ho9 hb9 hg9 hn9 HO8 HT8;obtain ⟨A9,c9,e9⟩:=Kd.R_slice HO9.out;subst e9)
       | ((with_reducible refine gate_builtin (b:=.append) (xs:=#[.tmp 61,.tmp 64]) rfl ?_);at_builtin;refine Kd.R_append_rows (Kd.int .u32) (w0:=w) w.heap.size rfl (.tmp 61) (.tmp 64) 33 27 (.int .u32 0) 4 rfl Try.underlying33 info27 rfl (by decide) (by omega) _ (wsL a0 u j) [x] _ _ _ (fun k=>k≠g∧k≠g2) (fun _=>False) rfl rfl ?aO ?aR (fun _ _ h=>h) (fun _ h=>h.elim) ?aF ?aB ?aS ?aL ?_;(case aO=>rw [← wsL_length a0 j u] at HOw ⊢;exact HOw.out);(case aR=>exact (Kd.R_reads' HO9.out).2.2);(case aF=>exact fun k hk=>HF8.out k (Nat.le_trans HS9.out hk));(case aB=>exact HT9.out.bel);(case aS=>exact HT9.out.bel.size);(case aL=>rw [wsL_length];have:=HJC.out;have:=HBR.out;simp;omega);intro v10 W10 ho10 hb10 hg10 hn10;have HO10:=Aside0.mk ho10;have HT10:=Aside0.mk (HT9.out.grown hg10 (fun e=>((HOw.out.1 g e.symm).1 rfl)) (fun e=>((HOw.out.1 g2 e.symm).2 rfl)) hb10);clear ho10 hb10 hg10 hn10 HOw HT9 HO9))
      go_roundg g3
      case measure=>omega
      case rel=>exact ⟨j+1,b4,⟨by have:=HJ.out;omega⟩,⟨by omega⟩,⟨by rw [HSN.out];exact HO10.out⟩,⟨by rw [show u+((j+1:Nat):Int)=u+j+1 by omega];exact HT10.out⟩⟩
     ·
      have hjz:¬ u+(j:Int) < u+(cnt:Int):=by omega
      obtain rfl:j=cnt:=by have:=HJC.out;omega
      go_wp2_with fail
      refine HT.out.used2.mono ?_
      rintro e W6 ⟨rfl,HT6,hk⟩
      have HO6:=Aside0.mk (Kd.R_keep HO.out hk (fun _ h=>h.2))
      clear hk HO HT
      go_wp2_with fail
      refine HT6.out.used1.mono ?_
      rintro e wr ⟨rfl,HT,hk⟩
      have HO:=Aside0.mk (Kd.R_keep HO6.out hk (fun _ h=>h.1))
      clear hk HO6 HT6
      have hx:wr.cell? (ad.add i)=some (.int .i64 n):=(HT.out.bel.cell (World.block_lt_of_cell? w _ HX.out)).trans HX.out
      by_cases hgood:1≤n∧n≤2147483647
      ·
       obtain ⟨hn1,hn2⟩:=hgood
       have hv0:=HBR.out.1
       have hvn:=HBR.out.2.1 hn1 hn2
       have hch:=HCH.out hn1 hn2 j rfl
       have hU:=wsL_U32 a0 HT.out.g1.1 j u HU.out.1 (by have:=HU.out;have:=HBR.out;omega)
       obtain ⟨kc,hkc⟩:=(choose_ev (wsL a0 u j) n hU (by rw [wsL_length];have:=HBR.out;omega)).rounds
       rw [hch] at hkc
       have HKC:=Aside0.mk hkc
       have hsub:wrap64 (u+(j:Int) - u)=j:=by have:=HBR.out;unfold wrap64;omega
       clear hch hU hkc
       have hrd:=(Kd.R_reads' HO.out).2
       have hcall:=prng_Choose.calls kc Ao co (wsL a0 u j) n v j wr hrd.2 (by rw [wsL_length];exact hrd.1) HKC.out
       rw [wsL_length] at hcall
       have HCALL:=Aside0.mk hcall
       clear hrd hcall
       go_wp2_with fail
       refine HCALL.out.mono ?_
       rintro e W6 ⟨rfl,hb⟩
       have HT6:=Aside0.mk (HT.out.below hb)
       have hx:W6.cell? (ad.add i)=some (.int .i64 n):=(HT6.out.bel.cell (World.block_lt_of_cell? w _ HX.out)).trans HX.out
       clear hb HT HCALL
       go_wp2_with fail
       refine HT6.out.used1.mono ?_
       rintro e W7 ⟨rfl,HT7,hk⟩
       go_wp2_with fail
       go_roundg gg
       case measure=>omega
       case rel=>exact ⟨i+1,u+j,b3,b,by go_num,⟨by have:=HG.out;omega⟩,⟨by have:=HU.out;have:=HBR.out;omega⟩,HT7⟩
      ·
       have hd:=HBD.out hgood
       injection hd with hd1 hd2
       obtain rfl:v=0:=hd1
       obtain rfl:j=0:=by omega
       have HT0:=Aside0.mk (show TwoG w wr g g2 a0 u u b3 b by simpa using HT.out)
       clear HT hjz
       by_cases hn1:n < 1
       all_goals
        first|(have hn2:n > 2147483647:=by omega)|skip
        go_wp2_with fail
        refine HT0.out.used1.mono ?_
        rintro e W6 ⟨rfl,HT6,hk⟩
        go_wp2_with fail
        go_roundg gg
        case measure=>omega
        case rel=>exact ⟨i+1,u,b3,b,by go_num,⟨by have:=HG.out;omega⟩,⟨by have:=HU.out;omega⟩,HT6⟩
   ·
    go_wp2
    go_ret
    exact ⟨rfl,HT.out.bel⟩
  ·
   go_wp2
   go_ret
   exact ⟨rfl,HT.out.bel⟩
end Go.Proofs.Ytelcaepenfjloaa.Print
/-! #### StmPrngBelow -/
namespace Go.Proofs.Ytelcaepenfjloaa.Print
open Go.RowKit Go.Proofs.YtelcaepenfjloaaW.PrintWords
/-- THE ONE PURE STATEMENT of mosaiclaw04_PrngBelow. -/
def mosaiclaw04_PrngBelow.Pure:Prop:=∀ (a0:ByteArray) (l1:List Int),((a0:ByteArray).size≤maxLen)→((l1:List Int).length≤maxLen∧∀ x1_∈(l1:List Int),(Lit.int .i64 x1_).wf=true)→mosaiclaw04_PrngBelow.f a0 l1=some true
end Go.Proofs.Ytelcaepenfjloaa.Print
/-! #### PurePrngBelow -/
/- The pure statement of PrngBelow. -/
namespace Go.Proofs.Ytelcaepenfjloaa.Pure
open Go.RowKit Go.Proofs.Ytelcaepenfjloaa.Print Go.Proofs.YtelcaepenfjloaaW.PrintWords
set_option linter.unusedVariables false
theorem PrngBelow:mosaiclaw04_PrngBelow.Pure:=fun _ _ _ _=>rfl
end Go.Proofs.Ytelcaepenfjloaa.Pure
/-! #### LawPrngBelow -/
/- The given statement PrngBelowSaid is proved: the law mosaiclaw04_PrngBelow returns true for every input, without a panic; out of its pure statement (YtelcaepenfjloaaPurePrngBelow) and the walks of the functions that it reaches; no condition beyond the statement's own. -/
namespace Go.Proofs.Ytelcaepenfjloaa.prngBelow
open Go.ChangeShapes Go.WideShapes Go.ChangeAt Go.RowKit Go.Proofs.Ytelcaepenfjloaa.Print Go.Proofs.YtelcaepenfjloaaW.PrintWords Go.Proofs.Ytelcaepenfjloaa.Open
open Go.ChangeMaps (open_string shut_string)
set_option linter.unusedVariables false
set_option linter.unusedSimpArgs false
theorem own:ownKnob Try.prog.godebug=none:=by kernel_rfl
theorem laidOut:laidOutB Try.prog=true:=by kernel_rfl
set_option maxRecDepth 100000 in
theorem lifted (os:Os) (started:os.Started) (H:Type) (enc:TypeId×Value→H) :
  ReturnsInHanded {} Try.checked os 18 .any (Rows.prngBelowSpec.pre6 enc Try.prog Try.f18 Rows.prngBelowRow.domain false) (Rows.prngBelowSpec.post enc Try.prog Try.f18 false true false false):=by
 refine returnsInHanded_of_change_sized (C:=Try.checked) own started (by kernel_rfl) Try.func18
  (ChangeSpec.witness6 (enc:=enc) (C:=Try.checked) false ⟨#[],#[.string ByteArray.empty,.slice none 0 0],[]⟩ 8 (by kernel_rfl) (by kernel_rfl) (by kernel_rfl) (by kernel_rfl)) ?_
 intro W base args ds gs before hval0 hW hcnd hsz0 _
 have hval:∀ (j:Nat) t v,Try.f18.params[j]?=some t→args[j]?=some v→Value.okWide Try.prog W .any base t v:=hval0
 have hW':=hW
 obtain ⟨p,q,hA0,hV,rfl,hfz,hnd⟩:=hW
 have hA:DataW.TrodAll enc Try.prog W 0 (fun _=>true) true Try.f18.params.toList args.toList ds p:=hA0
 rw [Try.params18] at hA hval
 obtain ⟨v0,vs0,d0,ds0,p0,q0,hargs,rfl,rfl,h0,r0⟩:=trodAll_cons hA
 obtain ⟨v1,vs1,d1,ds1,p1,q1,rfl,rfl,rfl,h1,r1⟩:=trodAll_cons r0
 obtain ⟨rfl,rfl,rfl⟩:=trodAll_nil r1
 obtain rfl:args=#[v0,v1]:=by cases args;simp_all
 obtain ⟨rfl,rfl⟩:=trodVars_none hV
 obtain ⟨a0,rfl,rfl,rfl,y0⟩:=open_string Try.underlying9 (hval 0 9 v0 rfl rfl) h0
 have lt1:∀ x∈p1,x.block < W.heap.size:=by obtain ⟨m,hm⟩:=h1;exact DataW.trod_lt m _ _ _ hm
 have k1:=h1
 have one1:v1.cells.toList=[v1]:=by obtain ⟨a_,len_,cap_,rfl⟩:=okWide_slice Try.underlying77 (hval 1 77 v1 rfl rfl);rfl
 obtain ⟨A1,c1,l1,rfl,hc1,hr1,hq1⟩:=arg_slice opens77 one1 h1
 clear hA0 hval0 hsz0
 have hkk:=Pure.PrngBelow (a0) (l1) y0 hq1
 refine (mosaiclaw04_PrngBelow.calls a0 A1 c1 l1 true W hr1 hc1 hkk).mono ?_
 rintro e W' ⟨rfl,hd_⟩
 have bel:Below W.heap.size W W':=hd_
 exact ⟨_,rfl,_,_,_,[],_,[],hW',trodAll_mk1 (shut_bool Try.underlying4 _),(trodAll_cons_mk (shut_string Try.underlying9 y0) (trodAll_cons_mk (Below.trod laidOut (by kernel_rfl) (of_decide_eq_true (by kernel_rfl)) k1 bel lt1) trodAll_mk0)),rfl,bel.frame _,fun h=>by cases h⟩
theorem facts:joinedFacts Try.pinned.checked.prog 18 Try.f18 Rows.prngBelowSpec Rows.prngBelowRow=true:=by
 unfold joinedFacts
 simp only [Bool.and_eq_true]
 repeat' apply And.intro
 any_goals (with_reducible exact Fct.mayEnter)
 any_goals ((with_reducible refine Fct.lifts _ ?_);rfl)
 any_goals ((with_reducible refine Fct.make_ _ ?_);rfl)
 all_goals (as_aux_lemma=>kernel_rfl)
theorem over:Rows.prngBelowRow.holds Try.pinned (OpenSpec.ofChange Rows.prngBelowSpec) :=
 OpenClaim.holds_of_wide 18 Try.f18 rfl rfl rfl rfl rfl rfl rfl ⟨rfl,rfl,rfl,rfl,rfl⟩ rfl rfl rfl rfl rfl (by as_aux_lemma=>kernel_rfl) Try.func18 facts
  (of_decide_eq_true (by as_aux_lemma=>kernel_rfl)) (by unfold Func.isWrapper;first|(rw [if_pos (by decide +kernel)];as_aux_lemma=>kernel_rfl)|(rw [if_neg (by decide +kernel)];exact ⟨rfl,rfl⟩))
  (fun os started H enc _=>lifted os started H enc)
theorem proved:Rows.PrngBelowSaid:=over
#print axioms proved
end Go.Proofs.Ytelcaepenfjloaa.prngBelow
namespace Go.Proofs.Ytelcaepenfjloaa
/-- The row, under a short name, for the claim. -/
theorem prngBelow_holds:Rows.PrngBelowSaid:=prngBelow.proved
end Go.Proofs.Ytelcaepenfjloaa
