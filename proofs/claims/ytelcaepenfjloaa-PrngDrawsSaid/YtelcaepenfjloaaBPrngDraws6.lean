/- The proof of the statement PrngDraws of the seat, part 6 of 7: the functions that it reaches, as plain functions, with the walks that show it, and what they come to; the last part ends in the row. No condition beyond the statement's own. -/
import Derived.IntWalk
import Derived.Shelf.Strings.Builder1
import Derived.Lib.Builder
import Derived.Test.YtelcaepenfjloaaBPrngDraws1
import Derived.Test.YtelcaepenfjloaaBPrngDraws2
import Derived.Test.YtelcaepenfjloaaBPrngDraws3
import Derived.Test.YtelcaepenfjloaaBPrngDraws4
import Derived.Test.YtelcaepenfjloaaBPrngDraws5
/-! #### Pr17 -/
namespace Go.Proofs.Ytelcaepenfjloaa.Print
open Go.RowKit Go.Proofs.YtelcaepenfjloaaW.PrintWords Go.Proofs.YtelcaepenfjloaaW.PrintLast Go.Proofs.YtelcaepenfjloaaW.PrintMore
attribute [local go_sem] max2_int min2_int max_two min_two max_three min_three max_four min_four
set_option linter.unusedVariables false
set_option linter.unusedSimpArgs false
/-! ### mosaiclaw04_PrngDraws: function 17 -/
mutual
def mosaiclaw04_PrngDraws.j0:Nat→ByteArray→List (S90)→Bool→ByteArray→Int→ByteArray→Option (Bool)
 | 0,_,_,_,_,_,_=>none
 | k+1,x0,x1,x24,x565000,x565001,x565002=>if x24=true then ((mosaiclaw04_awake.f k).bind fun t566=>(if t566=true then (some false) else (some false))) else (mosaiclaw04_PrngDraws.l0 k x1 0 x565000 x565001 x565002 x0 0)
def mosaiclaw04_PrngDraws.l0:Nat→List (S90)→Int→ByteArray→Int→ByteArray→ByteArray→Int→Option (Bool)
 | 0,_,_,_,_,_,_,_=>none
 | k+1,x1,x7,x565000,x565001,x565002,x568000,x568001=>if x7 < (x1.length:Int) then (mosaiclaw04_PrngDraws.j2 k x1 x7 (decide (x7 < 20)) x565000 x565001 x565002 x568000 x568001) else (mosaiclaw04_PrngDraws.j2 k x1 x7 false x565000 x565001 x565002 x568000 x568001)
def mosaiclaw04_PrngDraws.j2:Nat→List (S90)→Int→Bool→ByteArray→Int→ByteArray→ByteArray→Int→Option (Bool)
 | 0,_,_,_,_,_,_,_,_=>none
 | k+1,x1,x7,x39,x565000,x565001,x565002,x568000,x568001=>if x39=true then (if 0≤x7 then (if x7 < (x1.length:Int) then (if ((rd_T90 x1 x7).f0)=0 then ((mosaicref04_Gen_Word.f k x568000 x568001).bind fun bt570=>((prng_Gen_Word.f k x565000 x565001 x565002).bind fun bt574=>(if (wrap64 (bt574.1))=bt570.2.2 then ((prng_Gen_Used.f bt574.2.1 bt574.2.2.1 bt574.2.2.2).bind fun bt578=>(if bt578.1=bt570.2.1 then (mosaiclaw04_PrngDraws.l0 k x1 (wrap64 (x7+1)) bt578.2.1 bt578.2.2.1 bt578.2.2.2 bt570.1 bt570.2.1) else (some false))) else (some false)))) else (if ((rd_T90 x1 x7).f0)=1 then ((mosaicref04_Gen_Below.f k x568000 x568001 ((rd_T90 x1 x7).f1)).bind fun bt582=>((prng_Gen_Below.f k x565000 x565001 x565002 ((rd_T90 x1 x7).f1)).bind fun bt586=>(if bt586.1=bt582.2.2 then ((prng_Gen_Used.f bt586.2.1 bt586.2.2.1 bt586.2.2.2).bind fun bt590=>(if bt590.1=bt582.2.1 then (mosaiclaw04_PrngDraws.l0 k x1 (wrap64 (x7+1)) bt590.2.1 bt590.2.2.1 bt590.2.2.2 bt582.1 bt582.2.1) else (some false))) else (some false)))) else (if ((rd_T90 x1 x7).f0)=2 then (if ((rd_T90 x1 x7).f1) > 200 then (mosaiclaw04_PrngDraws.j3 k x1 x7 (decide (((rd_T90 x1 x7).f1)≤4096)) x565000 x565001 x565002 x568000 x568001 ((rd_T90 x1 x7).f0) ((rd_T90 x1 x7).f1) ((rd_T90 x1 x7).f2)) else (mosaiclaw04_PrngDraws.j3 k x1 x7 false x565000 x565001 x565002 x568000 x568001 ((rd_T90 x1 x7).f0) ((rd_T90 x1 x7).f1) ((rd_T90 x1 x7).f2))) else ((prng_Gen_Used.f x565000 x565001 x565002).bind fun bt611=>(if bt611.1=x568001 then (mosaiclaw04_PrngDraws.l0 k x1 (wrap64 (x7+1)) bt611.2.1 bt611.2.2.1 bt611.2.2.2 x568000 x568001) else (some false)))))) else (none)) else (none)) else (some true)
def mosaiclaw04_PrngDraws.j3:Nat→List (S90)→Int→Bool→ByteArray→Int→ByteArray→ByteArray→Int→Int→Int→Int→Option (Bool)
 | 0,_,_,_,_,_,_,_,_,_,_,_=>none
 | k+1,x1,x7,x84,x565000,x565001,x565002,x568000,x568001,x570000,x570001,x570002=>if x84=true then (mosaiclaw04_PrngDraws.j4 k x1 x7 x565000 x565001 x565002 x568000 x568001 x570000 200 x570002) else (mosaiclaw04_PrngDraws.j4 k x1 x7 x565000 x565001 x565002 x568000 x568001 x570000 x570001 x570002)
def mosaiclaw04_PrngDraws.j4:Nat→List (S90)→Int→ByteArray→Int→ByteArray→ByteArray→Int→Int→Int→Int→Option (Bool)
 | 0,_,_,_,_,_,_,_,_,_,_=>none
 | k+1,x1,x7,x565000,x565001,x565002,x568000,x568001,x570000,x570001,x570002=>(mosaicref04_Gen_Pick.f k x568000 x568001 x570001 x570002).bind fun bt594=>((prng_Gen_Pick.f k x565000 x565001 x565002 x570001 x570002).bind fun bt600=>((mosaicref04_Same.f k bt600.1 bt594.2.2).bind fun t606=>(if t606=true then ((prng_Gen_Used.f bt600.2.1 bt600.2.2.1 bt600.2.2.2).bind fun bt607=>(if bt607.1=bt594.2.1 then (mosaiclaw04_PrngDraws.l0 k x1 (wrap64 (x7+1)) bt607.2.1 bt607.2.2.1 bt607.2.2.2 bt594.1 bt594.2.1) else (some false))) else (some false))))
end
def mosaiclaw04_PrngDraws.f (k:Nat) (a0:ByteArray) (l1:List (S90)):Option (Bool):=(prng_New.f a0).bind fun bt561=>((mosaiclaw04_awake.f k).bind fun t565=>(if t565=true then (if (a0.size:Int) > 64 then (mosaiclaw04_PrngDraws.j0 k a0 l1 true bt561.1 bt561.2.1 bt561.2.2) else (mosaiclaw04_PrngDraws.j0 k a0 l1 false bt561.1 bt561.2.1 bt561.2.2)) else (mosaiclaw04_PrngDraws.j0 k a0 l1 true bt561.1 bt561.2.1 bt561.2.2)))
theorem mosaiclaw04_PrngDraws.mono_l:∀ k,(∀ y0 y1 y2 y3 y4 y5,LeO (mosaiclaw04_PrngDraws.j0 k y0 y1 y2 y3 y4 y5) (mosaiclaw04_PrngDraws.j0 (k+1) y0 y1 y2 y3 y4 y5))∧(∀ y0 y1 y2 y3 y4 y5 y6,LeO (mosaiclaw04_PrngDraws.l0 k y0 y1 y2 y3 y4 y5 y6) (mosaiclaw04_PrngDraws.l0 (k+1) y0 y1 y2 y3 y4 y5 y6))∧(∀ y0 y1 y2 y3 y4 y5 y6 y7,LeO (mosaiclaw04_PrngDraws.j2 k y0 y1 y2 y3 y4 y5 y6 y7) (mosaiclaw04_PrngDraws.j2 (k+1) y0 y1 y2 y3 y4 y5 y6 y7))∧(∀ y0 y1 y2 y3 y4 y5 y6 y7 y8 y9 y10,LeO (mosaiclaw04_PrngDraws.j3 k y0 y1 y2 y3 y4 y5 y6 y7 y8 y9 y10) (mosaiclaw04_PrngDraws.j3 (k+1) y0 y1 y2 y3 y4 y5 y6 y7 y8 y9 y10))∧(∀ y0 y1 y2 y3 y4 y5 y6 y7 y8 y9,LeO (mosaiclaw04_PrngDraws.j4 k y0 y1 y2 y3 y4 y5 y6 y7 y8 y9) (mosaiclaw04_PrngDraws.j4 (k+1) y0 y1 y2 y3 y4 y5 y6 y7 y8 y9))
 | 0=>⟨fun _ _ _ _ _ _ r h=>by simp [mosaiclaw04_PrngDraws.j0] at h,fun _ _ _ _ _ _ _ r h=>by simp [mosaiclaw04_PrngDraws.l0] at h,fun _ _ _ _ _ _ _ _ r h=>by simp [mosaiclaw04_PrngDraws.j2] at h,fun _ _ _ _ _ _ _ _ _ _ _ r h=>by simp [mosaiclaw04_PrngDraws.j3] at h,fun _ _ _ _ _ _ _ _ _ _ r h=>by simp [mosaiclaw04_PrngDraws.j4] at h⟩
 | k+1=>by
  obtain ⟨ih0,ih1,ih2,ih3,ih4⟩:=mosaiclaw04_PrngDraws.mono_l k
  refine ⟨?_,?_,?_,?_,?_⟩
  ·
   intro y0 y1 y2 y3 y4 y5
   unfold mosaiclaw04_PrngDraws.j0
   repeat' first
   | (with_reducible exact ih0 _ _ _ _ _ _)
   | (with_reducible exact ih1 _ _ _ _ _ _ _)
   | (with_reducible exact ih2 _ _ _ _ _ _ _ _)
   | (with_reducible exact ih3 _ _ _ _ _ _ _ _ _ _ _)
   | (with_reducible exact ih4 _ _ _ _ _ _ _ _ _ _)
   | (with_reducible exact mosaiclaw04_awake.mono _)
   | (with_reducible exact mosaicref04_Gen_Below.mono _ _ _ _)
   | (with_reducible exact mosaicref04_Gen_Pick.mono _ _ _ _ _)
   | (with_reducible exact mosaicref04_Gen_Word.mono _ _ _)
   | (with_reducible exact mosaicref04_Same.mono _ _ _)
   | (with_reducible exact prng_Gen_Below.mono _ _ _ _ _)
   | (with_reducible exact prng_Gen_Pick.mono _ _ _ _ _ _)
   | (with_reducible exact prng_Gen_Word.mono _ _ _ _)
   | (with_reducible exact LeO.refl _)
   | (with_reducible exact LeO.none _)
   | (with_reducible refine LeO.ite ?_ ?_)
   | (with_reducible refine LeO.bind ?_ (fun _=>?_))
   | exact ih0 _ _ _ _ _ _
   | exact ih1 _ _ _ _ _ _ _
   | exact ih2 _ _ _ _ _ _ _ _
   | exact ih3 _ _ _ _ _ _ _ _ _ _ _
   | exact ih4 _ _ _ _ _ _ _ _ _ _
   | exact mosaiclaw04_awake.mono _
   | exact mosaicref04_Gen_Below.mono _ _ _ _
   | exact mosaicref04_Gen_Pick.mono _ _ _ _ _
   | exact mosaicref04_Gen_Word.mono _ _ _
   | exact mosaicref04_Same.mono _ _ _
   | exact prng_Gen_Below.mono _ _ _ _ _
   | exact prng_Gen_Pick.mono _ _ _ _ _ _
   | exact prng_Gen_Word.mono _ _ _ _
   | exact LeO.none _
   | refine LeO.ite ?_ ?_
   | refine LeO.bind ?_ (fun _=>?_)
  ·
   intro y0 y1 y2 y3 y4 y5 y6
   unfold mosaiclaw04_PrngDraws.l0
   repeat' first
   | (with_reducible exact ih0 _ _ _ _ _ _)
   | (with_reducible exact ih1 _ _ _ _ _ _ _)
   | (with_reducible exact ih2 _ _ _ _ _ _ _ _)
   | (with_reducible exact ih3 _ _ _ _ _ _ _ _ _ _ _)
   | (with_reducible exact ih4 _ _ _ _ _ _ _ _ _ _)
   | (with_reducible exact mosaiclaw04_awake.mono _)
   | (with_reducible exact mosaicref04_Gen_Below.mono _ _ _ _)
   | (with_reducible exact mosaicref04_Gen_Pick.mono _ _ _ _ _)
   | (with_reducible exact mosaicref04_Gen_Word.mono _ _ _)
   | (with_reducible exact mosaicref04_Same.mono _ _ _)
   | (with_reducible exact prng_Gen_Below.mono _ _ _ _ _)
   | (with_reducible exact prng_Gen_Pick.mono _ _ _ _ _ _)
   | (with_reducible exact prng_Gen_Word.mono _ _ _ _)
   | (with_reducible exact LeO.refl _)
   | (with_reducible exact LeO.none _)
   | (with_reducible refine LeO.ite ?_ ?_)
   | (with_reducible refine LeO.bind ?_ (fun _=>?_))
   | exact ih0 _ _ _ _ _ _
   | exact ih1 _ _ _ _ _ _ _
   | exact ih2 _ _ _ _ _ _ _ _
   | exact ih3 _ _ _ _ _ _ _ _ _ _ _
   | exact ih4 _ _ _ _ _ _ _ _ _ _
   | exact mosaiclaw04_awake.mono _
   | exact mosaicref04_Gen_Below.mono _ _ _ _
   | exact mosaicref04_Gen_Pick.mono _ _ _ _ _
   | exact mosaicref04_Gen_Word.mono _ _ _
   | exact mosaicref04_Same.mono _ _ _
   | exact prng_Gen_Below.mono _ _ _ _ _
   | exact prng_Gen_Pick.mono _ _ _ _ _ _
   | exact prng_Gen_Word.mono _ _ _ _
   | exact LeO.none _
   | refine LeO.ite ?_ ?_
   | refine LeO.bind ?_ (fun _=>?_)
  ·
   intro y0 y1 y2 y3 y4 y5 y6 y7
   unfold mosaiclaw04_PrngDraws.j2
   repeat' first
   | (with_reducible exact ih0 _ _ _ _ _ _)
   | (with_reducible exact ih1 _ _ _ _ _ _ _)
   | (with_reducible exact ih2 _ _ _ _ _ _ _ _)
   | (with_reducible exact ih3 _ _ _ _ _ _ _ _ _ _ _)
   | (with_reducible exact ih4 _ _ _ _ _ _ _ _ _ _)
   | (with_reducible exact mosaiclaw04_awake.mono _)
   | (with_reducible exact mosaicref04_Gen_Below.mono _ _ _ _)
   | (with_reducible exact mosaicref04_Gen_Pick.mono _ _ _ _ _)
   | (with_reducible exact mosaicref04_Gen_Word.mono _ _ _)
   | (with_reducible exact mosaicref04_Same.mono _ _ _)
   | (with_reducible exact prng_Gen_Below.mono _ _ _ _ _)
   | (with_reducible exact prng_Gen_Pick.mono _ _ _ _ _ _)
   | (with_reducible exact prng_Gen_Word.mono _ _ _ _)
   | (with_reducible exact LeO.refl _)
   | (with_reducible exact LeO.none _)
   | (with_reducible refine LeO.ite ?_ ?_)
   | (with_reducible refine LeO.bind ?_ (fun _=>?_))
   | exact ih0 _ _ _ _ _ _
   | exact ih1 _ _ _ _ _ _ _
   | exact ih2 _ _ _ _ _ _ _ _
   | exact ih3 _ _ _ _ _ _ _ _ _ _ _
   | exact ih4 _ _ _ _ _ _ _ _ _ _
   | exact mosaiclaw04_awake.mono _
   | exact mosaicref04_Gen_Below.mono _ _ _ _
   | exact mosaicref04_Gen_Pick.mono _ _ _ _ _
   | exact mosaicref04_Gen_Word.mono _ _ _
   | exact mosaicref04_Same.mono _ _ _
   | exact prng_Gen_Below.mono _ _ _ _ _
   | exact prng_Gen_Pick.mono _ _ _ _ _ _
   | exact prng_Gen_Word.mono _ _ _ _
   | exact LeO.none _
   | refine LeO.ite ?_ ?_
   | refine LeO.bind ?_ (fun _=>?_)
  ·
   intro y0 y1 y2 y3 y4 y5 y6 y7 y8 y9 y10
   unfold mosaiclaw04_PrngDraws.j3
   repeat' first
   | (with_reducible exact ih0 _ _ _ _ _ _)
   | (with_reducible exact ih1 _ _ _ _ _ _ _)
   | (with_reducible exact ih2 _ _ _ _ _ _ _ _)
   | (with_reducible exact ih3 _ _ _ _ _ _ _ _ _ _ _)
   | (with_reducible exact ih4 _ _ _ _ _ _ _ _ _ _)
   | (with_reducible exact mosaiclaw04_awake.mono _)
   | (with_reducible exact mosaicref04_Gen_Below.mono _ _ _ _)
   | (with_reducible exact mosaicref04_Gen_Pick.mono _ _ _ _ _)
   | (with_reducible exact mosaicref04_Gen_Word.mono _ _ _)
   | (with_reducible exact mosaicref04_Same.mono _ _ _)
   | (with_reducible exact prng_Gen_Below.mono _ _ _ _ _)
   | (with_reducible exact prng_Gen_Pick.mono _ _ _ _ _ _)
   | (with_reducible exact prng_Gen_Word.mono _ _ _ _)
   | (with_reducible exact LeO.refl _)
   | (with_reducible exact LeO.none _)
   | (with_reducible refine LeO.ite ?_ ?_)
   | (with_reducible refine LeO.bind ?_ (fun _=>?_))
   | exact ih0 _ _ _ _ _ _
   | exact ih1 _ _ _ _ _ _ _
   | exact ih2 _ _ _ _ _ _ _ _
   | exact ih3 _ _ _ _ _ _ _ _ _ _ _
   | exact ih4 _ _ _ _ _ _ _ _ _ _
   | exact mosaiclaw04_awake.mono _
   | exact mosaicref04_Gen_Below.mono _ _ _ _
   | exact mosaicref04_Gen_Pick.mono _ _ _ _ _
   | exact mosaicref04_Gen_Word.mono _ _ _
   | exact mosaicref04_Same.mono _ _ _
   | exact prng_Gen_Below.mono _ _ _ _ _
   | exact prng_Gen_Pick.mono _ _ _ _ _ _
   | exact prng_Gen_Word.mono _ _ _ _
   | exact LeO.none _
   | refine LeO.ite ?_ ?_
   | refine LeO.bind ?_ (fun _=>?_)
  ·
   intro y0 y1 y2 y3 y4 y5 y6 y7 y8 y9
   unfold mosaiclaw04_PrngDraws.j4
   repeat' first
   | (with_reducible exact ih0 _ _ _ _ _ _)
   | (with_reducible exact ih1 _ _ _ _ _ _ _)
   | (with_reducible exact ih2 _ _ _ _ _ _ _ _)
   | (with_reducible exact ih3 _ _ _ _ _ _ _ _ _ _ _)
   | (with_reducible exact ih4 _ _ _ _ _ _ _ _ _ _)
   | (with_reducible exact mosaiclaw04_awake.mono _)
   | (with_reducible exact mosaicref04_Gen_Below.mono _ _ _ _)
   | (with_reducible exact mosaicref04_Gen_Pick.mono _ _ _ _ _)
   | (with_reducible exact mosaicref04_Gen_Word.mono _ _ _)
   | (with_reducible exact mosaicref04_Same.mono _ _ _)
   | (with_reducible exact prng_Gen_Below.mono _ _ _ _ _)
   | (with_reducible exact prng_Gen_Pick.mono _ _ _ _ _ _)
   | (with_reducible exact prng_Gen_Word.mono _ _ _ _)
   | (with_reducible exact LeO.refl _)
   | (with_reducible exact LeO.none _)
   | (with_reducible refine LeO.ite ?_ ?_)
   | (with_reducible refine LeO.bind ?_ (fun _=>?_))
   | exact ih0 _ _ _ _ _ _
   | exact ih1 _ _ _ _ _ _ _
   | exact ih2 _ _ _ _ _ _ _ _
   | exact ih3 _ _ _ _ _ _ _ _ _ _ _
   | exact ih4 _ _ _ _ _ _ _ _ _ _
   | exact mosaiclaw04_awake.mono _
   | exact mosaicref04_Gen_Below.mono _ _ _ _
   | exact mosaicref04_Gen_Pick.mono _ _ _ _ _
   | exact mosaicref04_Gen_Word.mono _ _ _
   | exact mosaicref04_Same.mono _ _ _
   | exact prng_Gen_Below.mono _ _ _ _ _
   | exact prng_Gen_Pick.mono _ _ _ _ _ _
   | exact prng_Gen_Word.mono _ _ _ _
   | exact LeO.none _
   | refine LeO.ite ?_ ?_
   | refine LeO.bind ?_ (fun _=>?_)
theorem mosaiclaw04_PrngDraws.mono:∀ a0 a1 k,LeO (mosaiclaw04_PrngDraws.f k a0 a1) (mosaiclaw04_PrngDraws.f (k+1) a0 a1):=by
 intro a0 a1 k
 obtain ⟨ih0,ih1,ih2,ih3,ih4⟩:=mosaiclaw04_PrngDraws.mono_l k
 unfold mosaiclaw04_PrngDraws.f
 repeat' first
   | (with_reducible exact ih0 _ _ _ _ _ _)
   | (with_reducible exact ih1 _ _ _ _ _ _ _)
   | (with_reducible exact ih2 _ _ _ _ _ _ _ _)
   | (with_reducible exact ih3 _ _ _ _ _ _ _ _ _ _ _)
   | (with_reducible exact ih4 _ _ _ _ _ _ _ _ _ _)
   | (with_reducible exact mosaiclaw04_awake.mono _)
   | (with_reducible exact mosaicref04_Gen_Below.mono _ _ _ _)
   | (with_reducible exact mosaicref04_Gen_Pick.mono _ _ _ _ _)
   | (with_reducible exact mosaicref04_Gen_Word.mono _ _ _)
   | (with_reducible exact mosaicref04_Same.mono _ _ _)
   | (with_reducible exact prng_Gen_Below.mono _ _ _ _ _)
   | (with_reducible exact prng_Gen_Pick.mono _ _ _ _ _ _)
   | (with_reducible exact prng_Gen_Word.mono _ _ _ _)
   | (with_reducible exact LeO.refl _)
   | (with_reducible exact LeO.none _)
   | (with_reducible refine LeO.ite ?_ ?_)
   | (with_reducible refine LeO.bind ?_ (fun _=>?_))
   | exact ih0 _ _ _ _ _ _
   | exact ih1 _ _ _ _ _ _ _
   | exact ih2 _ _ _ _ _ _ _ _
   | exact ih3 _ _ _ _ _ _ _ _ _ _ _
   | exact ih4 _ _ _ _ _ _ _ _ _ _
   | exact mosaiclaw04_awake.mono _
   | exact mosaicref04_Gen_Below.mono _ _ _ _
   | exact mosaicref04_Gen_Pick.mono _ _ _ _ _
   | exact mosaicref04_Gen_Word.mono _ _ _
   | exact mosaicref04_Same.mono _ _ _
   | exact prng_Gen_Below.mono _ _ _ _ _
   | exact prng_Gen_Pick.mono _ _ _ _ _ _
   | exact prng_Gen_Word.mono _ _ _ _
   | exact LeO.none _
   | refine LeO.ite ?_ ?_
   | refine LeO.bind ?_ (fun _=>?_)
def mosaiclaw04_PrngDraws.T25:Bool×List (List Nat×List Nat):=(true,[([],[]),([],[]),([1],[1]),([],[]),([3],[3]),([0,2,4],[0,2,4]),([],[]),([6],[6]),([5,7,5],[5,7]),([8],[8])])
def mosaiclaw04_PrngDraws.B25:List Nat:=[0,0,2,0,8,31,0,64,255,511]
theorem mosaiclaw04_PrngDraws.tab25:rtab .any (opsOf Try.f17 25)=mosaiclaw04_PrngDraws.T25:=by kernel_rfl
theorem mosaiclaw04_PrngDraws.bits25:waitsOk mosaiclaw04_PrngDraws.T25.2 mosaiclaw04_PrngDraws.B25=true:=by kernel_rfl
set_option maxHeartbeats 8000000 in
set_option maxRecDepth 100000 in
theorem mosaiclaw04_PrngDraws.callsT (k:Nat) (a0:ByteArray) (A1:Option Addr) (c1:Nat) (l1:List (S90)) (w:World) (hr1:Kd.C k90 w A1 l1.length l1) (hc1:l1.length≤c1) (h:mosaiclaw04_PrngDraws.f k a0 l1=some true) :
  Calls Try.prog 17 #[.string a0,.slice A1 l1.length c1] w fun e w'=>e=.returned (.bool true)∧Below w.heap.size w w':=by
 have hu83:=Try.underlying83
 have hu90:=Try.underlying90
 have hu85:=Try.underlying85
 have hu94:=Try.underlying94
 have HR1:=Aside0.mk hr1
 have HC1:=Aside0.mk hc1
 clear hr1 hc1
 have HB:=Aside0.mk (Below.refl w.heap.size w)
 have H:((prng_New.f a0).bind fun bt561=>((mosaiclaw04_awake.f k).bind fun t565=>(if t565=true then (if (a0.size:Int) > 64 then (mosaiclaw04_PrngDraws.j0 k a0 l1 true bt561.1 bt561.2.1 bt561.2.2) else (mosaiclaw04_PrngDraws.j0 k a0 l1 false bt561.1 bt561.2.1 bt561.2.2)) else (mosaiclaw04_PrngDraws.j0 k a0 l1 true bt561.1 bt561.2.1 bt561.2.2))))=some true:=h
 clear h
 replace H:=Option.bind_eq_some_iff.mp H
 obtain ⟨⟨t561,t562,t563⟩,A30,H⟩:=H
 replace H:((mosaiclaw04_awake.f k).bind fun t565=>(if t565=true then (if (a0.size:Int) > 64 then (mosaiclaw04_PrngDraws.j0 k a0 l1 true t561 t562 t563) else (mosaiclaw04_PrngDraws.j0 k a0 l1 false t561 t562 t563)) else (mosaiclaw04_PrngDraws.j0 k a0 l1 true t561 t562 t563)))=some true:=H
 have A3:=Aside0.mk A30
 clear A30
 have HC4:=Aside0.mk H
 clear H
 go_enter Try.func17,Try.ntmps17
 go_upto_region 2 with (first|((with_reducible refine gate_callee (f:=62) rfl ?_);refine goesL_ (some 13) rfl rfl Try.func62 (by kernel_rfl) rfl #[.string a0] rfl (by (try simp only [List.map_toArray,List.map_cons,List.map_nil]);first|done|rfl|(simp only [List.length_drop,List.length_take];rfl)) ?_;(with_reducible refine (prng_New.calls a0 t561 t562 t563 w _ ?side1 A3.out).mono ?_);(case side1=>repeat (first|(with_reducible first|exact HB.out|apply below_alloc|apply pw_below_drewN|apply below_drew1)|exact HB.out));rintro e w5 ⟨g564,rfl,hi,hb,hb2⟩;refine ⟨_,rfl,?_⟩;have n0_:=Aside0.mk (hb);have n1_:=Aside0.mk (hi);clear HB;have HB:=n0_;have HI564:=n1_;clear n0_ n1_;(try clear hb);(try clear hb2);(try clear hk);(try clear hi)))
 (try simp only [Act.put,List.setIfInBounds_toArray,List.set_cons_zero,List.set_cons_succ])
 go_cut [24] (fun v24 wc=>∃ (kq:Nat) (x24_3:Bool),v24=.bool x24_3∧Aside0 (mosaiclaw04_PrngDraws.j0 kq a0 l1 x24_3 t561 t562 t563=some true)∧Aside0 (kq≤k)∧Aside0 (IsS130 w wc g564 t561 t562 t563)∧Aside0 (Below w.heap.size w wc))
 case first =>
  have H:=HC4.out
  clear HC4
  replace H:=Option.bind_eq_some_iff.mp H
  obtain ⟨t565,A60,H⟩:=H
  replace H:(if t565=true then (if (a0.size:Int) > 64 then (mosaiclaw04_PrngDraws.j0 k a0 l1 true t561 t562 t563) else (mosaiclaw04_PrngDraws.j0 k a0 l1 false t561 t562 t563)) else (mosaiclaw04_PrngDraws.j0 k a0 l1 true t561 t562 t563))=some true:=H
  have A6:=Aside0.mk A60
  clear A60
  by_cases c7:t565=true
  ·
   subst c7
   have H1:(if (a0.size:Int) > 64 then (mosaiclaw04_PrngDraws.j0 k a0 l1 true t561 t562 t563) else (mosaiclaw04_PrngDraws.j0 k a0 l1 false t561 t562 t563))=some true:=by rw [if_pos rfl] at H;exact H
   clear H
   have H:=H1
   clear H1
   by_cases c8:(a0.size:Int) > 64
   ·
    rw [if_pos c8] at H
    have c8b0:decide (64 < (a0.size:Int))=true:=decide_eq_true c8
    have c8b1:decide (64 < a0.size)=true:=decide_eq_true (by omega)
    clear c8
    (first|rw [c8b0]|(simp only [i64_w,i32_w];rw [c8b0])|skip)
    have H':=Aside0.mk H
    clear H
    go_wp2_with (first|((with_reducible refine gate_callee (f:=59) rfl ?_);refine goesL_ (some 14) rfl rfl Try.func59 (by kernel_rfl) rfl #[] rfl (by (try simp only [List.map_toArray,List.map_cons,List.map_nil]);first|done|rfl|(simp only [List.length_drop,List.length_take];rfl)) ?_;(with_reducible refine (mosaiclaw04_awake.calls k  true _ A6.out).mono ?_);rintro e w9 ⟨rfl,hb⟩;refine ⟨_,rfl,?_⟩;have n0_:=Aside0.mk (IsS130.below (by repeat (first|(with_reducible first|exact HI564.out|apply IsS130.alloc|apply IsS130.drewN|apply IsS130.drew|apply IsS130.set_0|apply IsS130.set_1|apply IsS130.set_2)|exact HI564.out)) hb);have n1_:=Aside0.mk (below_step (by repeat (first|(with_reducible first|exact HB.out|apply below_alloc|apply pw_below_drewN|apply below_drew1|refine below_set ?_ (IsS130.ge HI564.out))|exact HB.out)) hb);clear HI564;clear HB;have HI564:=n0_;have HB:=n1_;clear n0_ n1_;(try clear hb);(try clear hb2);(try clear hk);(try clear hi)))
    go_meet
    case rel=>exact ⟨_,(true),(by first|rfl|(simp;done)|(simp [*];done)),H',⟨by first|omega|exact Nat.le_refl _⟩,⟨by repeat (first|(with_reducible first|exact HI564.out|apply IsS130.alloc|apply IsS130.drewN|apply IsS130.drew|apply IsS130.set_0|apply IsS130.set_1|apply IsS130.set_2)|exact HI564.out)⟩,⟨by repeat (first|(with_reducible first|exact HB.out|apply below_alloc|apply pw_below_drewN|apply below_drew1|refine below_set ?_ (IsS130.ge HI564.out))|exact HB.out)⟩⟩
   ·
    rw [if_neg c8] at H
    have c8b0:decide (64 < (a0.size:Int))=false:=decide_eq_false c8
    have c8b1:decide (64 < a0.size)=false:=decide_eq_false (by omega)
    clear c8
    (first|rw [c8b0]|(simp only [i64_w,i32_w];rw [c8b0])|skip)
    have H':=Aside0.mk H
    clear H
    go_wp2_with (first|((with_reducible refine gate_callee (f:=59) rfl ?_);refine goesL_ (some 14) rfl rfl Try.func59 (by kernel_rfl) rfl #[] rfl (by (try simp only [List.map_toArray,List.map_cons,List.map_nil]);first|done|rfl|(simp only [List.length_drop,List.length_take];rfl)) ?_;(with_reducible refine (mosaiclaw04_awake.calls k  true _ A6.out).mono ?_);rintro e w10 ⟨rfl,hb⟩;refine ⟨_,rfl,?_⟩;have n0_:=Aside0.mk (IsS130.below (by repeat (first|(with_reducible first|exact HI564.out|apply IsS130.alloc|apply IsS130.drewN|apply IsS130.drew|apply IsS130.set_0|apply IsS130.set_1|apply IsS130.set_2)|exact HI564.out)) hb);have n1_:=Aside0.mk (below_step (by repeat (first|(with_reducible first|exact HB.out|apply below_alloc|apply pw_below_drewN|apply below_drew1|refine below_set ?_ (IsS130.ge HI564.out))|exact HB.out)) hb);clear HI564;clear HB;have HI564:=n0_;have HB:=n1_;clear n0_ n1_;(try clear hb);(try clear hb2);(try clear hk);(try clear hi)))
    go_meet
    case rel=>exact ⟨_,(false),(by first|rfl|(simp;done)|(simp [*];done)),H',⟨by first|omega|exact Nat.le_refl _⟩,⟨by repeat (first|(with_reducible first|exact HI564.out|apply IsS130.alloc|apply IsS130.drewN|apply IsS130.drew|apply IsS130.set_0|apply IsS130.set_1|apply IsS130.set_2)|exact HI564.out)⟩,⟨by repeat (first|(with_reducible first|exact HB.out|apply below_alloc|apply pw_below_drewN|apply below_drew1|refine below_set ?_ (IsS130.ge HI564.out))|exact HB.out)⟩⟩
  ·
   replace c7:=Bool.eq_false_iff.mpr c7
   subst c7
   have H1:(mosaiclaw04_PrngDraws.j0 k a0 l1 true t561 t562 t563)=some true:=by rw [if_neg (show ¬ (false=true) by decide)] at H;exact H
   clear H
   have H:=H1
   clear H1
   have H':=Aside0.mk H
   clear H
   go_wp2_with (first|((with_reducible refine gate_callee (f:=59) rfl ?_);refine goesL_ (some 14) rfl rfl Try.func59 (by kernel_rfl) rfl #[] rfl (by (try simp only [List.map_toArray,List.map_cons,List.map_nil]);first|done|rfl|(simp only [List.length_drop,List.length_take];rfl)) ?_;(with_reducible refine (mosaiclaw04_awake.calls k  false _ A6.out).mono ?_);rintro e w11 ⟨rfl,hb⟩;refine ⟨_,rfl,?_⟩;have n0_:=Aside0.mk (IsS130.below (by repeat (first|(with_reducible first|exact HI564.out|apply IsS130.alloc|apply IsS130.drewN|apply IsS130.drew|apply IsS130.set_0|apply IsS130.set_1|apply IsS130.set_2)|exact HI564.out)) hb);have n1_:=Aside0.mk (below_step (by repeat (first|(with_reducible first|exact HB.out|apply below_alloc|apply pw_below_drewN|apply below_drew1|refine below_set ?_ (IsS130.ge HI564.out))|exact HB.out)) hb);clear HI564;clear HB;have HI564:=n0_;have HB:=n1_;clear n0_ n1_;(try clear hb);(try clear hb2);(try clear hk);(try clear hi)))
   go_meet
   case rel=>exact ⟨_,(true),(by first|rfl|(simp;done)|(simp [*];done)),H',⟨by first|omega|exact Nat.le_refl _⟩,⟨by repeat (first|(with_reducible first|exact HI564.out|apply IsS130.alloc|apply IsS130.drewN|apply IsS130.drew|apply IsS130.set_0|apply IsS130.set_1|apply IsS130.set_2)|exact HI564.out)⟩,⟨by repeat (first|(with_reducible first|exact HB.out|apply below_alloc|apply pw_below_drewN|apply below_drew1|refine below_set ?_ (IsS130.ge HI564.out))|exact HB.out)⟩⟩
 case rest =>
  clear HC4
  try clear c1
  try clear p2
  try clear c5
  try clear c6
  try clear c7
  try clear c8
  try clear c8b0
  try clear c8b1
  obtain ⟨kq,x24_3,rfl,HA,HJ3,HI564,HB⟩:=hcut
  cases kq with
  | zero=>exact absurd HA.out (by simp [mosaiclaw04_PrngDraws.j0])
  | succ kj3 =>
   have H:=HA.out
   clear HA
   simp only [mosaiclaw04_PrngDraws.j0] at H
   by_cases c12:x24_3=true
   ·
    subst c12
    have H1:((mosaiclaw04_awake.f kj3).bind fun t566=>(if t566=true then (some false) else (some false)))=some true:=by rw [if_pos rfl] at H;exact H
    clear H
    have H:=H1
    clear H1
    replace H:=Option.bind_eq_some_iff.mp H
    obtain ⟨t566,A130,H⟩:=H
    replace H:(if t566=true then (some false) else (some false))=some true:=H
    have A13:=Aside0.mk A130
    clear A130
    by_cases c14:t566=true
    ·
     subst c14
     have H1:(some false)=some true:=by rw [if_pos rfl] at H;exact H
     clear H
     have H:=H1
     clear H1
     exact absurd (Option.some.inj H) (by simp)
    ·
     replace c14:=Bool.eq_false_iff.mpr c14
     subst c14
     have H1:(some false)=some true:=by rw [if_neg (show ¬ (false=true) by decide)] at H;exact H
     clear H
     have H:=H1
     clear H1
     exact absurd (Option.some.inj H) (by simp)
   ·
    replace c12:=Bool.eq_false_iff.mpr c12
    subst c12
    have H1:(mosaiclaw04_PrngDraws.l0 kj3 l1 0 t561 t562 t563 a0 0)=some true:=by rw [if_neg (show ¬ (false=true) by decide)] at H;exact H
    clear H
    have H:=H1
    clear H1
    have H':=Aside0.mk H
    clear H
    go_wp2_with (first|((with_reducible refine gate_dst (N:=6) rfl ?_);(try (refine gate_guard (by rfl) ?_;dsimp only));refine box_event ?hg (N:=6) ?hd (cs:=#[.string (⟨#[]⟩:ByteArray),.int .i64 0]) (t:=83) ?hr ?_;(case hd=>rfl);(case hg=>rfl);(case hr=>first|(go_simp;done)|(go_simp;rfl));intro gb567 hg w17 hbox hb;have n0_:=Aside0.mk (IsS130.below (by repeat (first|(with_reducible first|exact HI564.out|apply IsS130.alloc|apply IsS130.drewN|apply IsS130.drew|apply IsS130.set_0|apply IsS130.set_1|apply IsS130.set_2)|exact HI564.out)) hb);have n1_:=Aside0.mk (below_step (by repeat (first|(with_reducible first|exact HB.out|apply below_alloc|apply pw_below_drewN|apply below_drew1|refine below_set ?_ (IsS130.ge HI564.out))|exact HB.out)) hb);have n2_:=Aside0.mk (hbox);have n3_:=Aside0.mk ((by rw [hg];exact (below_size (by repeat (first|(with_reducible first|exact HB.out|apply below_alloc|apply pw_below_drewN|apply below_drew1|refine below_set ?_ (IsS130.ge HI564.out))|exact HB.out))):w.heap.size≤gb567));have n4_:=Aside0.mk ((by rw [hg];exact (below_size (by repeat (first|(with_reducible first|exact HB.out|apply below_alloc|apply pw_below_drewN|apply below_drew1|refine below_set ?_ (IsS130.ge HI564.out))|exact HB.out))):w.heap.size≤gb567));have n5_:=Aside0.mk ((by rw [hg];exact Nat.ne_of_lt (IsS130.lt (show IsS130 w _ g564 t561 t562 t563 from by repeat (first|(with_reducible first|exact HI564.out|apply IsS130.alloc|apply IsS130.drewN|apply IsS130.drew|apply IsS130.set_0|apply IsS130.set_1|apply IsS130.set_2)|exact HI564.out))):g564≠gb567));have n6_:=Aside0.mk ((by rw [hg];exact Nat.ne_of_gt (IsS130.lt (show IsS130 w _ g564 t561 t562 t563 from by repeat (first|(with_reducible first|exact HI564.out|apply IsS130.alloc|apply IsS130.drewN|apply IsS130.drew|apply IsS130.set_0|apply IsS130.set_1|apply IsS130.set_2)|exact HI564.out))):gb567≠g564));clear HI564;clear HB;have HI564:=n0_;have HB:=n1_;have BK567:=n2_;have GW567:=n3_;have GE567:=n4_;have NB564_567:=n5_;have NB567_564:=n6_;clear n0_ n1_ n2_ n3_ n4_ n5_ n6_;clear hb hbox hg;have hnb18:=NB567_564.out;have hnc18:=NB564_567.out;have hcz19_0:w17.cell? ⟨gb567,0,none⟩=some (.string (⟨#[]⟩:ByteArray)):=(blk_cell BK567.out 0).trans rfl;have hcz19_1:w17.cell? ⟨gb567,1,none⟩=some (.int .i64 0):=(blk_cell BK567.out 1).trans rfl;have hfz19_0:=blk_frozen BK567.out 0;have hfz19_1:=blk_frozen BK567.out 1))
    go_loopg [7] kj3 (fun kq v7 w'=>∃ (x7_2:Int) (x565000_2:ByteArray) (x565001_2:Int) (x565002_2:ByteArray) (x568000_2:ByteArray) (x568001_2:Int),v7=.int .i64 x7_2∧Aside0 (mosaiclaw04_PrngDraws.l0 kq l1 x7_2 x565000_2 x565001_2 x565002_2 x568000_2 x568001_2=some true)∧Aside0 (kq≤kj3)∧Aside0 (w'.heap[gb567]?=some (.cells #[.string x568000_2,.int .i64 x568001_2] 83 (0,0)))∧Aside0 (IsS130 w w' g564 x565000_2 x565001_2 x565002_2)∧Aside0 (Below w.heap.size w w'))
    case atStart=>exact ⟨(0),(t561),(t562),(t563),(a0),(0),(by first|rfl|(simp;done)|(simp [*];done)),H',⟨Nat.le_refl _⟩,⟨by (with_reducible repeat (first|refine blk_drewN ?_ _|refine blk_drew ?_|refine blk_alloc ?_ _));refine blk_put (cs:=#[.string a0,.int .i64 0]) ?_ 1 _ rfl;(with_reducible repeat (first|refine blk_drewN ?_ _|refine blk_drew ?_|refine blk_alloc ?_ _));refine blk_put (cs:=#[.string (⟨#[]⟩:ByteArray),.int .i64 0]) ?_ 0 _ rfl;(with_reducible repeat (first|refine blk_drewN ?_ _|refine blk_drew ?_|refine blk_alloc ?_ _));exact BK567.out⟩,⟨by repeat (first|(with_reducible first|exact HI564.out|apply IsS130.alloc|apply IsS130.drewN|apply IsS130.drew|apply IsS130.set_0|apply IsS130.set_1|apply IsS130.set_2|refine IsS130.far ?_ NB564_567.out _)|exact HI564.out)⟩,⟨by repeat (first|(with_reducible first|exact HB.out|apply below_alloc|apply pw_below_drewN|apply below_drew1|refine below_set ?_ (IsS130.ge HI564.out)|refine below_set ?_ GE567.out)|exact HB.out)⟩⟩
    case round =>
     clear H'
     try clear c1
     try clear p2
     try clear c5
     try clear c6
     try clear c7
     try clear c8
     try clear c8b0
     try clear c8b1
     try clear c12
     try clear c14
     try clear c17
     try clear c18
     try clear hcz19_0
     try clear hcz19_1
     try clear hfz19_0
     try clear hfz19_1
     try clear p2
     obtain ⟨x7_2,x565000_2,x565001_2,x565002_2,x568000_2,x568001_2,rfl,HA,HK2,BK567,HI564,HB⟩:=hrel
     cases gk with
     | zero=>exact absurd HA.out (by simp [mosaiclaw04_PrngDraws.l0])
     | succ k2 =>
      have H:=HA.out
      clear HA
      simp only [mosaiclaw04_PrngDraws.l0] at H
      have HC20:=Aside0.mk H
      clear H
      go_upto_region 6 with (fail)
      go_cut [39] (fun v39 wc=>∃ (kq:Nat) (x39_19:Bool),v39=.bool x39_19∧Aside0 (mosaiclaw04_PrngDraws.j2 kq l1 x7_2 x39_19 x565000_2 x565001_2 x565002_2 x568000_2 x568001_2=some true)∧Aside0 (kq≤k2)∧Aside0 (wc.heap[gb567]?=some (.cells #[.string x568000_2,.int .i64 x568001_2] 83 (0,0)))∧Aside0 (IsS130 w wc g564 x565000_2 x565001_2 x565002_2)∧Aside0 (Below w.heap.size w wc))
      case first =>
       have H:=HC20.out
       clear HC20
       by_cases c21:x7_2 < (l1.length:Int)
       ·
        rw [if_pos c21] at H
        have c21b0:decide (x7_2 < (l1.length:Int))=true:=decide_eq_true c21
        clear c21
        (first|rw [c21b0]|(simp only [i64_w,i32_w];rw [c21b0])|skip)
        have H':=Aside0.mk H
        clear H
        go_wp2
        go_meet
        case rel=>exact ⟨_,(decide (x7_2 < 20)),(by first|rfl|(simp;done)|(simp [*];done)),H',⟨by have:=HJ3.out;have:=HK2.out;first|omega|exact Nat.le_refl _⟩,⟨by (with_reducible repeat (first|refine blk_drewN ?_ _|refine blk_drew ?_|refine blk_alloc ?_ _));exact BK567.out⟩,⟨by repeat (first|(with_reducible first|exact HI564.out|apply IsS130.alloc|apply IsS130.drewN|apply IsS130.drew|apply IsS130.set_0|apply IsS130.set_1|apply IsS130.set_2|refine IsS130.far ?_ NB564_567.out _)|exact HI564.out)⟩,⟨by repeat (first|(with_reducible first|exact HB.out|apply below_alloc|apply pw_below_drewN|apply below_drew1|refine below_set ?_ (IsS130.ge HI564.out)|refine below_set ?_ GE567.out)|exact HB.out)⟩⟩
       ·
        rw [if_neg c21] at H
        have c21b0:decide (x7_2 < (l1.length:Int))=false:=decide_eq_false c21
        clear c21
        (first|rw [c21b0]|(simp only [i64_w,i32_w];rw [c21b0])|skip)
        have H':=Aside0.mk H
        clear H
        go_wp2
        go_meet
        case rel=>exact ⟨_,(false),(by first|rfl|(simp;done)|(simp [*];done)),H',⟨by have:=HJ3.out;have:=HK2.out;first|omega|exact Nat.le_refl _⟩,⟨by (with_reducible repeat (first|refine blk_drewN ?_ _|refine blk_drew ?_|refine blk_alloc ?_ _));exact BK567.out⟩,⟨by repeat (first|(with_reducible first|exact HI564.out|apply IsS130.alloc|apply IsS130.drewN|apply IsS130.drew|apply IsS130.set_0|apply IsS130.set_1|apply IsS130.set_2|refine IsS130.far ?_ NB564_567.out _)|exact HI564.out)⟩,⟨by repeat (first|(with_reducible first|exact HB.out|apply below_alloc|apply pw_below_drewN|apply below_drew1|refine below_set ?_ (IsS130.ge HI564.out)|refine below_set ?_ GE567.out)|exact HB.out)⟩⟩
      case rest =>
       clear HC20
       try clear c1
       try clear c2
       try clear p2
       try clear c5
       try clear c6
       try clear c7
       try clear c8
       try clear c8b0
       try clear c8b1
       try clear c12
       try clear c14
       try clear c17
       try clear c18
       try clear c21
       try clear c21b0
       try clear hcz19_0
       try clear hcz19_1
       try clear hfz19_0
       try clear hfz19_1
       try clear p2
       obtain ⟨kq,x39_19,rfl,HA,HJ19,BK567,HI564,HB⟩:=hcut
       cases kq with
       | zero=>exact absurd HA.out (by simp [mosaiclaw04_PrngDraws.j2])
       | succ kj19 =>
        have H:=HA.out
        clear HA
        simp only [mosaiclaw04_PrngDraws.j2] at H
        by_cases c22:x39_19=true
        ·
         subst c22
         have H1:(if 0≤x7_2 then (if x7_2 < (l1.length:Int) then (if ((rd_T90 l1 x7_2).f0)=0 then ((mosaicref04_Gen_Word.f kj19 x568000_2 x568001_2).bind fun bt570=>((prng_Gen_Word.f kj19 x565000_2 x565001_2 x565002_2).bind fun bt574=>(if (wrap64 (bt574.1))=bt570.2.2 then ((prng_Gen_Used.f bt574.2.1 bt574.2.2.1 bt574.2.2.2).bind fun bt578=>(if bt578.1=bt570.2.1 then (mosaiclaw04_PrngDraws.l0 kj19 l1 (wrap64 (x7_2+1)) bt578.2.1 bt578.2.2.1 bt578.2.2.2 bt570.1 bt570.2.1) else (some false))) else (some false)))) else (if ((rd_T90 l1 x7_2).f0)=1 then ((mosaicref04_Gen_Below.f kj19 x568000_2 x568001_2 ((rd_T90 l1 x7_2).f1)).bind fun bt582=>((prng_Gen_Below.f kj19 x565000_2 x565001_2 x565002_2 ((rd_T90 l1 x7_2).f1)).bind fun bt586=>(if bt586.1=bt582.2.2 then ((prng_Gen_Used.f bt586.2.1 bt586.2.2.1 bt586.2.2.2).bind fun bt590=>(if bt590.1=bt582.2.1 then (mosaiclaw04_PrngDraws.l0 kj19 l1 (wrap64 (x7_2+1)) bt590.2.1 bt590.2.2.1 bt590.2.2.2 bt582.1 bt582.2.1) else (some false))) else (some false)))) else (if ((rd_T90 l1 x7_2).f0)=2 then (if ((rd_T90 l1 x7_2).f1) > 200 then (mosaiclaw04_PrngDraws.j3 kj19 l1 x7_2 (decide (((rd_T90 l1 x7_2).f1)≤4096)) x565000_2 x565001_2 x565002_2 x568000_2 x568001_2 ((rd_T90 l1 x7_2).f0) ((rd_T90 l1 x7_2).f1) ((rd_T90 l1 x7_2).f2)) else (mosaiclaw04_PrngDraws.j3 kj19 l1 x7_2 false x565000_2 x565001_2 x565002_2 x568000_2 x568001_2 ((rd_T90 l1 x7_2).f0) ((rd_T90 l1 x7_2).f1) ((rd_T90 l1 x7_2).f2))) else ((prng_Gen_Used.f x565000_2 x565001_2 x565002_2).bind fun bt611=>(if bt611.1=x568001_2 then (mosaiclaw04_PrngDraws.l0 kj19 l1 (wrap64 (x7_2+1)) bt611.2.1 bt611.2.2.1 bt611.2.2.2 x568000_2 x568001_2) else (some false)))))) else (none)) else (none))=some true:=by rw [if_pos rfl] at H;exact H
         clear H
         have H:=H1
         clear H1
         by_cases c23:0≤x7_2
         ·
          rw [if_pos c23] at H
          have c23b0:decide (0≤x7_2)=true:=decide_eq_true c23
          clear c23
          by_cases c24:x7_2 < (l1.length:Int)
          ·
           rw [if_pos c24] at H
           have c24b0:decide (x7_2 < (l1.length:Int))=true:=decide_eq_true c24
           clear c24
           by_cases c25:((rd_T90 l1 x7_2).f0)=0
           ·
            rw [if_pos c25] at H
            have c25b0:(((rd_T90 l1 x7_2).f0) == 0)=true:=beq_iff_eq.mpr c25
            have c25b1:(((rd_T90 l1 x7_2).f0) != 0)=false:=bne_eq_false_iff_eq.mpr c25
            clear c25
            replace H:=Option.bind_eq_some_iff.mp H
            obtain ⟨⟨t570,t571,t572⟩,A260,H⟩:=H
            replace H:((prng_Gen_Word.f kj19 x565000_2 x565001_2 x565002_2).bind fun bt574=>(if (wrap64 (bt574.1))=t572 then ((prng_Gen_Used.f bt574.2.1 bt574.2.2.1 bt574.2.2.2).bind fun bt578=>(if bt578.1=t571 then (mosaiclaw04_PrngDraws.l0 kj19 l1 (wrap64 (x7_2+1)) bt578.2.1 bt578.2.2.1 bt578.2.2.2 t570 t571) else (some false))) else (some false)))=some true:=H
            have A26:=Aside0.mk A260
            clear A260
            replace H:=Option.bind_eq_some_iff.mp H
            obtain ⟨⟨t574,t575,t576,t577⟩,A270,H⟩:=H
            replace H:(if (wrap64 (t574))=t572 then ((prng_Gen_Used.f t575 t576 t577).bind fun bt578=>(if bt578.1=t571 then (mosaiclaw04_PrngDraws.l0 kj19 l1 (wrap64 (x7_2+1)) bt578.2.1 bt578.2.2.1 bt578.2.2.2 t570 t571) else (some false))) else (some false))=some true:=H
            have A27:=Aside0.mk A270
            clear A270
            by_cases c28:(wrap64 (t574))=t572
            ·
             rw [if_pos c28] at H
             have c28b0:((wrap64 (t574)) == t572)=true:=beq_iff_eq.mpr c28
             have c28b1:((wrap64 (t574)) != t572)=false:=bne_eq_false_iff_eq.mpr c28
             clear c28
             replace H:=Option.bind_eq_some_iff.mp H
             obtain ⟨⟨t578,t579,t580,t581⟩,A290,H⟩:=H
             replace H:(if t578=t571 then (mosaiclaw04_PrngDraws.l0 kj19 l1 (wrap64 (x7_2+1)) t579 t580 t581 t570 t571) else (some false))=some true:=H
             have A29:=Aside0.mk A290
             clear A290
             by_cases c30:t578=t571
             ·
              rw [if_pos c30] at H
              have c30b0:(t578 == t571)=true:=beq_iff_eq.mpr c30
              have c30b1:(t578 != t571)=false:=bne_eq_false_iff_eq.mpr c30
              clear c30
              have H':=Aside0.mk H
              clear H
              have p568:0≤(x7_2:Int):=of_decide_eq_true (by first|(with_reducible assumption)|assumption)
              have q568:x7_2 < (l1.length:Int):=of_decide_eq_true (by first|(with_reducible assumption)|assumption)
              obtain ⟨ad568,e568,hx568_0,hx568_1,hx568_2⟩:=at_T90 HR1.out x7_2 p568 q568
              cases e568
              replace hx568_0:=(HB.out.cell (World.block_lt_of_cell? w _ hx568_0)).trans hx568_0
              replace hx568_1:=(HB.out.cell (World.block_lt_of_cell? w _ hx568_1)).trans hx568_1
              replace hx568_2:=(HB.out.cell (World.block_lt_of_cell? w _ hx568_2)).trans hx568_2
              replace p568:=eq_true p568
              replace q568:=eq_true q568
              try go_wp2_with (first|((with_reducible refine gate_dst (N:=8) rfl ?_);(try (refine gate_guard (by rfl) ?_;dsimp only));refine box_event ?hg (N:=8) ?hd (cs:=#[.int .i64 0,.int .i64 0,.int .i64 0]) (t:=90) ?hr ?_;(case hd=>rfl);(case hg=>rfl);(case hr=>first|(go_simp;done)|(go_simp;rfl));intro gb569 hg w31 hbox hb;have n0_:=Aside0.mk (blk_below (g:=gb567) (o:=.cells #[.string x568000_2,.int .i64 x568001_2] 83 (0,0)) (by (with_reducible repeat (first|refine blk_drewN ?_ _|refine blk_drew ?_|refine blk_alloc ?_ _));exact BK567.out) hb);have n1_:=Aside0.mk (IsS130.below (by repeat (first|(with_reducible first|exact HI564.out|apply IsS130.alloc|apply IsS130.drewN|apply IsS130.drew|apply IsS130.set_0|apply IsS130.set_1|apply IsS130.set_2|refine IsS130.far ?_ NB564_567.out _)|exact HI564.out)) hb);have n2_:=Aside0.mk (below_step (by repeat (first|(with_reducible first|exact HB.out|apply below_alloc|apply pw_below_drewN|apply below_drew1|refine below_set ?_ (IsS130.ge HI564.out)|refine below_set ?_ GE567.out)|exact HB.out)) hb);have n3_:=Aside0.mk (hbox);have n4_:=Aside0.mk ((by rw [hg];exact (below_size (by repeat (first|(with_reducible first|exact HB.out|apply below_alloc|apply pw_below_drewN|apply below_drew1|refine below_set ?_ (IsS130.ge HI564.out)|refine below_set ?_ GE567.out)|exact HB.out))):w.heap.size≤gb569));have n5_:=Aside0.mk ((by rw [hg];exact (below_size (by repeat (first|(with_reducible first|exact HB.out|apply below_alloc|apply pw_below_drewN|apply below_drew1|refine below_set ?_ (IsS130.ge HI564.out)|refine below_set ?_ GE567.out)|exact HB.out))):w.heap.size≤gb569));have n6_:=Aside0.mk ((by rw [hg];exact Nat.ne_of_lt (blk_lt (g:=gb567) (o:=.cells #[.string x568000_2,.int .i64 x568001_2] 83 (0,0)) (by (with_reducible repeat (first|refine blk_drewN ?_ _|refine blk_drew ?_|refine blk_alloc ?_ _));exact BK567.out)):gb567≠gb569));have n7_:=Aside0.mk ((by rw [hg];exact Nat.ne_of_gt (blk_lt (g:=gb567) (o:=.cells #[.string x568000_2,.int .i64 x568001_2] 83 (0,0)) (by (with_reducible repeat (first|refine blk_drewN ?_ _|refine blk_drew ?_|refine blk_alloc ?_ _));exact BK567.out)):gb569≠gb567));have n8_:=Aside0.mk ((by rw [hg];exact Nat.ne_of_lt (IsS130.lt (show IsS130 w _ g564 x565000_2 x565001_2 x565002_2 from by repeat (first|(with_reducible first|exact HI564.out|apply IsS130.alloc|apply IsS130.drewN|apply IsS130.drew|apply IsS130.set_0|apply IsS130.set_1|apply IsS130.set_2|refine IsS130.far ?_ NB564_567.out _)|exact HI564.out))):g564≠gb569));have n9_:=Aside0.mk ((by rw [hg];exact Nat.ne_of_gt (IsS130.lt (show IsS130 w _ g564 x565000_2 x565001_2 x565002_2 from by repeat (first|(with_reducible first|exact HI564.out|apply IsS130.alloc|apply IsS130.drewN|apply IsS130.drew|apply IsS130.set_0|apply IsS130.set_1|apply IsS130.set_2|refine IsS130.far ?_ NB564_567.out _)|exact HI564.out))):gb569≠g564));clear BK567;clear HI564;clear HB;have BK567:=n0_;have HI564:=n1_;have HB:=n2_;have BK569:=n3_;have GW569:=n4_;have GE569:=n5_;have NB567_569:=n6_;have NB569_567:=n7_;have NB564_569:=n8_;have NB569_564:=n9_;clear n0_ n1_ n2_ n3_ n4_ n5_ n6_ n7_ n8_ n9_;clear hb hbox hg;have hnb32:=NB569_567.out;have hnc32:=NB567_569.out;have hnb33:=NB569_564.out;have hnc33:=NB564_569.out;have hcz34_0:w31.cell? ⟨gb569,0,none⟩=some (.int .i64 0):=(blk_cell BK569.out 0).trans rfl;have hcz34_1:w31.cell? ⟨gb569,1,none⟩=some (.int .i64 0):=(blk_cell BK569.out 1).trans rfl;have hcz34_2:w31.cell? ⟨gb569,2,none⟩=some (.int .i64 0):=(blk_cell BK569.out 2).trans rfl;have hfz34_0:=blk_frozen BK569.out 0;have hfz34_1:=blk_frozen BK569.out 1;have hfz34_2:=blk_frozen BK569.out 2;have hnb35:=NB567_564.out;have hnc35:=NB564_567.out;have hcz36_0:w31.cell? ⟨gb567,0,none⟩=some (.string x568000_2):=(blk_cell BK567.out 0).trans rfl;have hcz36_1:w31.cell? ⟨gb567,1,none⟩=some (.int .i64 x568001_2):=(blk_cell BK567.out 1).trans rfl;have hfz36_0:=blk_frozen BK567.out 0;have hfz36_1:=blk_frozen BK567.out 1)|((with_reducible refine gate_callee (f:=66) rfl ?_);refine goesL_ (some 51) rfl rfl Try.func66 (by kernel_rfl) rfl #[.agg #[.string x568000_2,.int .i64 x568001_2]] rfl (by (try simp only [List.map_toArray,List.map_cons,List.map_nil]);first|done|rfl|(simp only [List.length_drop,List.length_take];rfl)) ?_;(with_reducible refine (mosaicref04_Gen_Word.calls kj19 x568000_2 x568001_2 t570 t571 t572 _ A26.out).mono ?_);rintro e w37 ⟨rfl,hb⟩;refine ⟨_,rfl,?_⟩;have n0_:=Aside0.mk (blk_below (g:=gb567) (o:=.cells #[.string x568000_2,.int .i64 x568001_2] 83 (0,0)) (by (with_reducible repeat (first|refine blk_drewN ?_ _|refine blk_drew ?_|refine blk_alloc ?_ _));refine blk_far ?_ NB567_569.out _;(with_reducible repeat (first|refine blk_drewN ?_ _|refine blk_drew ?_|refine blk_alloc ?_ _));refine blk_far ?_ NB567_569.out _;(with_reducible repeat (first|refine blk_drewN ?_ _|refine blk_drew ?_|refine blk_alloc ?_ _));refine blk_far ?_ NB567_569.out _;(with_reducible repeat (first|refine blk_drewN ?_ _|refine blk_drew ?_|refine blk_alloc ?_ _));exact BK567.out) hb);have n1_:=Aside0.mk (IsS130.below (show IsS130 w (((w31.setCell ⟨gb569,0,none⟩ (.int .i64 ((rd_T90 l1 x7_2).f0))).setCell ⟨gb569,1,none⟩ (.int .i64 ((rd_T90 l1 x7_2).f1))).setCell ⟨gb569,2,none⟩ (.int .i64 ((rd_T90 l1 x7_2).f2))) g564 x565000_2 x565001_2 x565002_2 from by repeat (first|(with_reducible first|exact HI564.out|apply IsS130.alloc|apply IsS130.drewN|apply IsS130.drew|apply IsS130.set_0|apply IsS130.set_1|apply IsS130.set_2|refine IsS130.far ?_ NB564_567.out _|refine IsS130.far ?_ NB564_569.out _)|exact HI564.out)) hb);have n2_:=Aside0.mk (blk_below (g:=gb569) (o:=.cells #[.int .i64 ((rd_T90 l1 x7_2).f0),.int .i64 ((rd_T90 l1 x7_2).f1),.int .i64 ((rd_T90 l1 x7_2).f2)] 90 (0,0)) (by (with_reducible repeat (first|refine blk_drewN ?_ _|refine blk_drew ?_|refine blk_alloc ?_ _));refine blk_put (cs:=#[.int .i64 ((rd_T90 l1 x7_2).f0),.int .i64 ((rd_T90 l1 x7_2).f1),.int .i64 0]) ?_ 2 _ rfl;(with_reducible repeat (first|refine blk_drewN ?_ _|refine blk_drew ?_|refine blk_alloc ?_ _));refine blk_put (cs:=#[.int .i64 ((rd_T90 l1 x7_2).f0),.int .i64 0,.int .i64 0]) ?_ 1 _ rfl;(with_reducible repeat (first|refine blk_drewN ?_ _|refine blk_drew ?_|refine blk_alloc ?_ _));refine blk_put (cs:=#[.int .i64 0,.int .i64 0,.int .i64 0]) ?_ 0 _ rfl;(with_reducible repeat (first|refine blk_drewN ?_ _|refine blk_drew ?_|refine blk_alloc ?_ _));exact BK569.out) hb);have n3_:=Aside0.mk (below_step (by repeat (first|(with_reducible first|exact HB.out|apply below_alloc|apply pw_below_drewN|apply below_drew1|refine below_set ?_ (IsS130.ge HI564.out)|refine below_set ?_ GE567.out|refine below_set ?_ GE569.out)|exact HB.out)) hb);clear BK567;clear HI564;clear BK569;clear HB;have BK567:=n0_;have HI564:=n1_;have BK569:=n2_;have HB:=n3_;clear n0_ n1_ n2_ n3_;(try clear hb);(try clear hb2);(try clear hk);(try clear hi))|((with_reducible refine gate_dst (N:=9) rfl ?_);(try (refine gate_guard (by rfl) ?_;dsimp only));refine box_event ?hg (N:=9) ?hd (cs:=#[.string (⟨#[]⟩:ByteArray),.int .i64 0,.int .i64 0]) (t:=85) ?hr ?_;(case hd=>rfl);(case hg=>rfl);(case hr=>first|(go_simp;done)|(go_simp;rfl));intro gb573 hg w38 hbox hb;have n0_:=Aside0.mk (blk_below (g:=gb567) (o:=.cells #[.string x568000_2,.int .i64 x568001_2] 83 (0,0)) (by (with_reducible repeat (first|refine blk_drewN ?_ _|refine blk_drew ?_|refine blk_alloc ?_ _));exact BK567.out) hb);have n1_:=Aside0.mk (IsS130.below (by repeat (first|(with_reducible first|exact HI564.out|apply IsS130.alloc|apply IsS130.drewN|apply IsS130.drew|apply IsS130.set_0|apply IsS130.set_1|apply IsS130.set_2|refine IsS130.far ?_ NB564_567.out _|refine IsS130.far ?_ NB564_569.out _)|exact HI564.out)) hb);have n2_:=Aside0.mk (blk_below (g:=gb569) (o:=.cells #[.int .i64 ((rd_T90 l1 x7_2).f0),.int .i64 ((rd_T90 l1 x7_2).f1),.int .i64 ((rd_T90 l1 x7_2).f2)] 90 (0,0)) (by (with_reducible repeat (first|refine blk_drewN ?_ _|refine blk_drew ?_|refine blk_alloc ?_ _));exact BK569.out) hb);have n3_:=Aside0.mk (below_step (by repeat (first|(with_reducible first|exact HB.out|apply below_alloc|apply pw_below_drewN|apply below_drew1|refine below_set ?_ (IsS130.ge HI564.out)|refine below_set ?_ GE567.out|refine below_set ?_ GE569.out)|exact HB.out)) hb);have n4_:=Aside0.mk (hbox);have n5_:=Aside0.mk ((by rw [hg];exact (below_size (by repeat (first|(with_reducible first|exact HB.out|apply below_alloc|apply pw_below_drewN|apply below_drew1|refine below_set ?_ (IsS130.ge HI564.out)|refine below_set ?_ GE567.out|refine below_set ?_ GE569.out)|exact HB.out))):w.heap.size≤gb573));have n6_:=Aside0.mk ((by rw [hg];exact (below_size (by repeat (first|(with_reducible first|exact HB.out|apply below_alloc|apply pw_below_drewN|apply below_drew1|refine below_set ?_ (IsS130.ge HI564.out)|refine below_set ?_ GE567.out|refine below_set ?_ GE569.out)|exact HB.out))):w.heap.size≤gb573));have n7_:=Aside0.mk ((by rw [hg];exact Nat.ne_of_lt (blk_lt (g:=gb567) (o:=.cells #[.string x568000_2,.int .i64 x568001_2] 83 (0,0)) (by (with_reducible repeat (first|refine blk_drewN ?_ _|refine blk_drew ?_|refine blk_alloc ?_ _));exact BK567.out)):gb567≠gb573));have n8_:=Aside0.mk ((by rw [hg];exact Nat.ne_of_gt (blk_lt (g:=gb567) (o:=.cells #[.string x568000_2,.int .i64 x568001_2] 83 (0,0)) (by (with_reducible repeat (first|refine blk_drewN ?_ _|refine blk_drew ?_|refine blk_alloc ?_ _));exact BK567.out)):gb573≠gb567));have n9_:=Aside0.mk ((by rw [hg];exact Nat.ne_of_lt (blk_lt (g:=gb569) (o:=.cells #[.int .i64 ((rd_T90 l1 x7_2).f0),.int .i64 ((rd_T90 l1 x7_2).f1),.int .i64 ((rd_T90 l1 x7_2).f2)] 90 (0,0)) (by (with_reducible repeat (first|refine blk_drewN ?_ _|refine blk_drew ?_|refine blk_alloc ?_ _));exact BK569.out)):gb569≠gb573));have n10_:=Aside0.mk ((by rw [hg];exact Nat.ne_of_gt (blk_lt (g:=gb569) (o:=.cells #[.int .i64 ((rd_T90 l1 x7_2).f0),.int .i64 ((rd_T90 l1 x7_2).f1),.int .i64 ((rd_T90 l1 x7_2).f2)] 90 (0,0)) (by (with_reducible repeat (first|refine blk_drewN ?_ _|refine blk_drew ?_|refine blk_alloc ?_ _));exact BK569.out)):gb573≠gb569));have n11_:=Aside0.mk ((by rw [hg];exact Nat.ne_of_lt (IsS130.lt (show IsS130 w _ g564 x565000_2 x565001_2 x565002_2 from by repeat (first|(with_reducible first|exact HI564.out|apply IsS130.alloc|apply IsS130.drewN|apply IsS130.drew|apply IsS130.set_0|apply IsS130.set_1|apply IsS130.set_2|refine IsS130.far ?_ NB564_567.out _|refine IsS130.far ?_ NB564_569.out _)|exact HI564.out))):g564≠gb573));have n12_:=Aside0.mk ((by rw [hg];exact Nat.ne_of_gt (IsS130.lt (show IsS130 w _ g564 x565000_2 x565001_2 x565002_2 from by repeat (first|(with_reducible first|exact HI564.out|apply IsS130.alloc|apply IsS130.drewN|apply IsS130.drew|apply IsS130.set_0|apply IsS130.set_1|apply IsS130.set_2|refine IsS130.far ?_ NB564_567.out _|refine IsS130.far ?_ NB564_569.out _)|exact HI564.out))):gb573≠g564));clear BK567;clear HI564;clear BK569;clear HB;have BK567:=n0_;have HI564:=n1_;have BK569:=n2_;have HB:=n3_;have BK573:=n4_;have GW573:=n5_;have GE573:=n6_;have NB567_573:=n7_;have NB573_567:=n8_;have NB569_573:=n9_;have NB573_569:=n10_;have NB564_573:=n11_;have NB573_564:=n12_;clear n0_ n1_ n2_ n3_ n4_ n5_ n6_ n7_ n8_ n9_ n10_ n11_ n12_;clear hb hbox hg;have hnb39:=NB573_567.out;have hnc39:=NB567_573.out;have hnb40:=NB573_569.out;have hnc40:=NB569_573.out;have hnb41:=NB573_564.out;have hnc41:=NB564_573.out;have hcz42_0:w38.cell? ⟨gb573,0,none⟩=some (.string (⟨#[]⟩:ByteArray)):=(blk_cell BK573.out 0).trans rfl;have hcz42_1:w38.cell? ⟨gb573,1,none⟩=some (.int .i64 0):=(blk_cell BK573.out 1).trans rfl;have hcz42_2:w38.cell? ⟨gb573,2,none⟩=some (.int .i64 0):=(blk_cell BK573.out 2).trans rfl;have hfz42_0:=blk_frozen BK573.out 0;have hfz42_1:=blk_frozen BK573.out 1;have hfz42_2:=blk_frozen BK573.out 2;have hcz43_0:w38.cell? ⟨gb567,0,none⟩=some (.string x568000_2):=(blk_cell BK567.out 0).trans rfl;have hcz43_1:w38.cell? ⟨gb567,1,none⟩=some (.int .i64 x568001_2):=(blk_cell BK567.out 1).trans rfl;have hfz43_0:=blk_frozen BK567.out 0;have hfz43_1:=blk_frozen BK567.out 1))
              have n0_:Aside0 ((((((w38.setCell ⟨gb573,0,none⟩ (.string t570)).setCell ⟨gb573,1,none⟩ (.int .i64 t571)).setCell ⟨gb573,2,none⟩ (.int .i64 t572)).setCell ⟨gb567,0,none⟩ (.string t570)).setCell ⟨gb567,1,none⟩ (.int .i64 t571)).heap[gb567]?=some (.cells #[.string t570,.int .i64 t571] 83 (0,0))):=⟨by (with_reducible repeat (first|refine blk_drewN ?_ _|refine blk_drew ?_|refine blk_alloc ?_ _));refine blk_put (cs:=#[.string t570,.int .i64 x568001_2]) ?_ 1 _ rfl;(with_reducible repeat (first|refine blk_drewN ?_ _|refine blk_drew ?_|refine blk_alloc ?_ _));refine blk_put (cs:=#[.string x568000_2,.int .i64 x568001_2]) ?_ 0 _ rfl;(with_reducible repeat (first|refine blk_drewN ?_ _|refine blk_drew ?_|refine blk_alloc ?_ _));refine blk_far ?_ NB567_573.out _;(with_reducible repeat (first|refine blk_drewN ?_ _|refine blk_drew ?_|refine blk_alloc ?_ _));refine blk_far ?_ NB567_573.out _;(with_reducible repeat (first|refine blk_drewN ?_ _|refine blk_drew ?_|refine blk_alloc ?_ _));refine blk_far ?_ NB567_573.out _;(with_reducible repeat (first|refine blk_drewN ?_ _|refine blk_drew ?_|refine blk_alloc ?_ _));exact BK567.out⟩
              have n1_:Aside0 ((((((w38.setCell ⟨gb573,0,none⟩ (.string t570)).setCell ⟨gb573,1,none⟩ (.int .i64 t571)).setCell ⟨gb573,2,none⟩ (.int .i64 t572)).setCell ⟨gb567,0,none⟩ (.string t570)).setCell ⟨gb567,1,none⟩ (.int .i64 t571)).heap[gb569]?=some (.cells #[.int .i64 ((rd_T90 l1 x7_2).f0),.int .i64 ((rd_T90 l1 x7_2).f1),.int .i64 ((rd_T90 l1 x7_2).f2)] 90 (0,0))):=⟨by (with_reducible repeat (first|refine blk_drewN ?_ _|refine blk_drew ?_|refine blk_alloc ?_ _));refine blk_far ?_ NB569_567.out _;(with_reducible repeat (first|refine blk_drewN ?_ _|refine blk_drew ?_|refine blk_alloc ?_ _));refine blk_far ?_ NB569_567.out _;(with_reducible repeat (first|refine blk_drewN ?_ _|refine blk_drew ?_|refine blk_alloc ?_ _));refine blk_far ?_ NB569_573.out _;(with_reducible repeat (first|refine blk_drewN ?_ _|refine blk_drew ?_|refine blk_alloc ?_ _));refine blk_far ?_ NB569_573.out _;(with_reducible repeat (first|refine blk_drewN ?_ _|refine blk_drew ?_|refine blk_alloc ?_ _));refine blk_far ?_ NB569_573.out _;(with_reducible repeat (first|refine blk_drewN ?_ _|refine blk_drew ?_|refine blk_alloc ?_ _));exact BK569.out⟩
              have n2_:Aside0 ((((((w38.setCell ⟨gb573,0,none⟩ (.string t570)).setCell ⟨gb573,1,none⟩ (.int .i64 t571)).setCell ⟨gb573,2,none⟩ (.int .i64 t572)).setCell ⟨gb567,0,none⟩ (.string t570)).setCell ⟨gb567,1,none⟩ (.int .i64 t571)).heap[gb573]?=some (.cells #[.string t570,.int .i64 t571,.int .i64 t572] 85 (0,0))):=⟨by (with_reducible repeat (first|refine blk_drewN ?_ _|refine blk_drew ?_|refine blk_alloc ?_ _));refine blk_far ?_ NB573_567.out _;(with_reducible repeat (first|refine blk_drewN ?_ _|refine blk_drew ?_|refine blk_alloc ?_ _));refine blk_far ?_ NB573_567.out _;(with_reducible repeat (first|refine blk_drewN ?_ _|refine blk_drew ?_|refine blk_alloc ?_ _));refine blk_put (cs:=#[.string t570,.int .i64 t571,.int .i64 0]) ?_ 2 _ rfl;(with_reducible repeat (first|refine blk_drewN ?_ _|refine blk_drew ?_|refine blk_alloc ?_ _));refine blk_put (cs:=#[.string t570,.int .i64 0,.int .i64 0]) ?_ 1 _ rfl;(with_reducible repeat (first|refine blk_drewN ?_ _|refine blk_drew ?_|refine blk_alloc ?_ _));refine blk_put (cs:=#[.string (⟨#[]⟩:ByteArray),.int .i64 0,.int .i64 0]) ?_ 0 _ rfl;(with_reducible repeat (first|refine blk_drewN ?_ _|refine blk_drew ?_|refine blk_alloc ?_ _));exact BK573.out⟩
              have n3_:Aside0 (IsS130 w (((((w38.setCell ⟨gb573,0,none⟩ (.string t570)).setCell ⟨gb573,1,none⟩ (.int .i64 t571)).setCell ⟨gb573,2,none⟩ (.int .i64 t572)).setCell ⟨gb567,0,none⟩ (.string t570)).setCell ⟨gb567,1,none⟩ (.int .i64 t571)) g564 x565000_2 x565001_2 x565002_2):=⟨by repeat (first|(with_reducible first|exact HI564.out|apply IsS130.alloc|apply IsS130.drewN|apply IsS130.drew|apply IsS130.set_0|apply IsS130.set_1|apply IsS130.set_2|refine IsS130.far ?_ NB564_567.out _|refine IsS130.far ?_ NB564_569.out _|refine IsS130.far ?_ NB564_573.out _)|exact HI564.out)⟩
              have n4_:Aside0 (Below w.heap.size w (((((w38.setCell ⟨gb573,0,none⟩ (.string t570)).setCell ⟨gb573,1,none⟩ (.int .i64 t571)).setCell ⟨gb573,2,none⟩ (.int .i64 t572)).setCell ⟨gb567,0,none⟩ (.string t570)).setCell ⟨gb567,1,none⟩ (.int .i64 t571))):=⟨by repeat (first|(with_reducible first|exact HB.out|apply below_alloc|apply pw_below_drewN|apply below_drew1|refine below_set ?_ (IsS130.ge HI564.out)|refine below_set ?_ GE567.out|refine below_set ?_ GE569.out|refine below_set ?_ GE573.out)|exact HB.out)⟩
              (try clear BK567)
              (try clear BK569)
              (try clear BK573)
              (try clear HI564)
              (try clear HB)
              generalize (((((w38.setCell ⟨gb573,0,none⟩ (.string t570)).setCell ⟨gb573,1,none⟩ (.int .i64 t571)).setCell ⟨gb573,2,none⟩ (.int .i64 t572)).setCell ⟨gb567,0,none⟩ (.string t570)).setCell ⟨gb567,1,none⟩ (.int .i64 t571))=w44 at n0_ n1_ n2_ n3_ n4_ ⊢
              have BK567:=n0_
              have BK569:=n1_
              have BK573:=n2_
              have HI564:=n3_
              have HB:=n4_
              clear n0_ n1_ n2_ n3_ n4_
              have n0_:=Aside0.mk (blk_drew BK567.out)
              have n1_:=Aside0.mk (blk_drew BK569.out)
              have n2_:=Aside0.mk (blk_drew BK573.out)
              have n3_:=Aside0.mk (IsS130.drew HI564.out)
              have n4_:=Aside0.mk (below_drew1 HB.out)
              clear BK567
              clear BK569
              clear BK573
              clear HI564
              clear HB
              have BK567:=n0_
              have BK569:=n1_
              have BK573:=n2_
              have HI564:=n3_
              have HB:=n4_
              clear n0_ n1_ n2_ n3_ n4_
              refine start_ (n:=6) (S:=fun w'=>w'.cell? ⟨gb573,0,none⟩=some (.string t570)∧w'.cell? ⟨gb573,1,none⟩=some (.int .i64 t571)∧w'.cell? ⟨gb573,2,none⟩=some (.int .i64 t572)) (ds:=[]) #[false,false,false,false,false,false] (by kernel_rfl) rfl rfl ⟨(blk_cell BK573.out 0).trans rfl,(blk_cell BK573.out 1).trans rfl,(blk_cell BK573.out 2).trans rfl⟩ (fun hHeld=>?_)
              generalize w44.drew=w45 at BK567 BK569 BK573 HI564 HB hHeld ⊢
              refine pure_ (i:=0) (N:=some 54) (v:=?_) (a':=?_) #[true,false,false,false,false,false] rfl rfl (by kernel_rfl) (fun _ _ _ h=>h) (Or.inl ⟨by rfl,?_⟩) ?_ ?_
              rotate_left
              ·
               intro w'
               go_simp
               with_reducible rfl
              rotate_left
              ·
               simp only [Act.put,List.setIfInBounds_toArray,List.set_cons_zero,List.set_cons_succ,i64_w,i32_w]
               rfl
              refine pure_ (i:=3) (N:=some 57) (v:=?_) (a':=?_) #[true,false,false,true,false,false] rfl rfl (by kernel_rfl) (fun _ _ _ h=>h) (Or.inl ⟨by rfl,?_⟩) ?_ ?_
              rotate_left
              ·
               intro w'
               go_simp
               with_reducible rfl
              rotate_left
              ·
               simp only [Act.put,List.setIfInBounds_toArray,List.set_cons_zero,List.set_cons_succ,i64_w,i32_w]
               rfl
              refine take_ (i:=4) (N:=some 58) (v:=?_) (a':=?_) #[true,false,false,true,true,false] rfl rfl (by kernel_rfl) (fun _ _ _ h=>h) (Or.inl ⟨by rfl,?_⟩) hHeld ?_ ?_
              rotate_left
              ·
               rintro w' ⟨s0,s1,s2⟩
               go_simp
               with_reducible rfl
              rotate_left
              ·
               simp only [Act.put,List.setIfInBounds_toArray,List.set_cons_zero,List.set_cons_succ,i64_w,i32_w]
               rfl
              refine one_ (i:=1) (N:=some 55) #[true,true,false,true,true,false] rfl rfl (by kernel_rfl) (by decide) (fun K hK=>?_)
              refine goes_ Try.func67 (by kernel_rfl) rfl #[.pointer (some ⟨g564,0,none⟩)] (by rfl) rfl rfl (by (try simp only [List.map_toArray,List.map_cons,List.map_nil]);first|done|rfl|(simp only [List.length_drop,List.length_take];rfl)) ?_
              with_reducible refine (prng_Gen_Word.calls kj19 g564 x565000_2 x565001_2 x565002_2 t574 t575 t576 t577 w _ ?side1 ?side2 A27.out).mono ?_
              (case side1=>repeat (first|(with_reducible first|exact HI564.out|apply IsS130.alloc|apply IsS130.drewN|apply IsS130.drew|apply IsS130.set_0|apply IsS130.set_1|apply IsS130.set_2|refine IsS130.far ?_ NB564_567.out _|refine IsS130.far ?_ NB564_569.out _|refine IsS130.far ?_ NB564_573.out _)|exact HI564.out))
              (case side2=>repeat (first|(with_reducible first|exact HB.out|apply below_alloc|apply pw_below_drewN|apply below_drew1|refine below_set ?_ (IsS130.ge HI564.out)|refine below_set ?_ GE567.out|refine below_set ?_ GE569.out|refine below_set ?_ GE573.out)|exact HB.out))
              rintro e w46 ⟨rfl,hi,hb,hk⟩
              refine ⟨_,rfl,?_⟩
              have n0_:=Aside0.mk (KeepBut.blk hk (g':=gb567) (o:=.cells #[.string t570,.int .i64 t571] 83 (0,0)) (by (with_reducible repeat (first|refine blk_drewN ?_ _|refine blk_drew ?_|refine blk_alloc ?_ _));exact BK567.out) NB567_564.out (by simp))
              have n1_:=Aside0.mk (KeepBut.blk hk (g':=gb569) (o:=.cells #[.int .i64 ((rd_T90 l1 x7_2).f0),.int .i64 ((rd_T90 l1 x7_2).f1),.int .i64 ((rd_T90 l1 x7_2).f2)] 90 (0,0)) (by (with_reducible repeat (first|refine blk_drewN ?_ _|refine blk_drew ?_|refine blk_alloc ?_ _));exact BK569.out) NB569_564.out (by simp))
              have n2_:=Aside0.mk (KeepBut.blk hk (g':=gb573) (o:=.cells #[.string t570,.int .i64 t571,.int .i64 t572] 85 (0,0)) (by (with_reducible repeat (first|refine blk_drewN ?_ _|refine blk_drew ?_|refine blk_alloc ?_ _));exact BK573.out) NB573_564.out (by simp))
              have n3_:=Aside0.mk (hb)
              have n4_:=Aside0.mk (hi)
              clear BK567
              clear BK569
              clear BK573
              clear HB
              clear HI564
              have BK567:=n0_
              have BK569:=n1_
              have BK573:=n2_
              have HB:=n3_
              have HI564:=n4_
              clear n0_ n1_ n2_ n3_ n4_
              (try clear hb)
              (try clear hb2)
              (try clear hk)
              (try clear hi)
              refine hK.out _ _ ⟨(blk_cell BK573.out 0).trans rfl,(blk_cell BK573.out 1).trans rfl,(blk_cell BK573.out 2).trans rfl⟩ (fun hHeld=>?_)
              clear hK K
              refine norm_ (a':=?_) ?_ ?_
              rotate_left
              ·
               show Act.put _ (some 55) _=_
               simp only [Act.put,List.setIfInBounds_toArray,List.set_cons_zero,List.set_cons_succ,i64_w,i32_w]
               rfl
              refine pure_ (i:=2) (N:=some 56) (v:=?_) (a':=?_) #[true,true,true,true,true,false] rfl rfl (by kernel_rfl) (fun _ _ _ h=>h) (Or.inl ⟨by rfl,?_⟩) ?_ ?_
              rotate_left
              ·
               intro w'
               go_simp
               with_reducible rfl
              rotate_left
              ·
               simp only [Act.put,List.setIfInBounds_toArray,List.set_cons_zero,List.set_cons_succ,i64_w,i32_w]
               rfl
              refine pure_ (i:=5) (N:=some 59) (v:=?_) (a':=?_) #[true,true,true,true,true,true] rfl rfl (by kernel_rfl) (fun _ _ _ h=>h) (Or.inl ⟨by rfl,?_⟩) ?_ ?_
              rotate_left
              ·
               intro w'
               go_simp
               with_reducible rfl
              rotate_left
              ·
               simp only [Act.put,List.setIfInBounds_toArray,List.set_cons_zero,List.set_cons_succ,i64_w,i32_w]
               rfl
              refine done_ (by kernel_rfl) ?_
              try go_wp2
              have n0_:=Aside0.mk (blk_drew BK567.out)
              have n1_:=Aside0.mk (blk_drew BK569.out)
              have n2_:=Aside0.mk (blk_drew BK573.out)
              have n3_:=Aside0.mk (IsS130.drew HI564.out)
              have n4_:=Aside0.mk (below_drew1 HB.out)
              clear BK567
              clear BK569
              clear BK573
              clear HI564
              clear HB
              have BK567:=n0_
              have BK569:=n1_
              have BK573:=n2_
              have HI564:=n3_
              have HB:=n4_
              clear n0_ n1_ n2_ n3_ n4_
              refine start_ (n:=5) (S:=fun w'=>w'.cell? ⟨gb567,0,none⟩=some (.string t570)∧w'.cell? ⟨gb567,1,none⟩=some (.int .i64 t571)) (ds:=[]) #[false,false,false,false,false] (by kernel_rfl) rfl rfl ⟨(blk_cell BK567.out 0).trans rfl,(blk_cell BK567.out 1).trans rfl⟩ (fun hHeld=>?_)
              generalize w46.drew=w47 at BK567 BK569 BK573 HI564 HB hHeld ⊢
              refine pure_ (i:=0) (N:=some 104) (v:=?_) (a':=?_) #[true,false,false,false,false] rfl rfl (by kernel_rfl) (fun _ _ _ h=>h) (Or.inl ⟨by rfl,?_⟩) ?_ ?_
              rotate_left
              ·
               intro w'
               go_simp
               with_reducible rfl
              rotate_left
              ·
               simp only [Act.put,List.setIfInBounds_toArray,List.set_cons_zero,List.set_cons_succ,i64_w,i32_w]
               rfl
              refine pure_ (i:=2) (N:=some 106) (v:=?_) (a':=?_) #[true,false,true,false,false] rfl rfl (by kernel_rfl) (fun _ _ _ h=>h) (Or.inl ⟨by rfl,?_⟩) ?_ ?_
              rotate_left
              ·
               intro w'
               go_simp
               with_reducible rfl
              rotate_left
              ·
               simp only [Act.put,List.setIfInBounds_toArray,List.set_cons_zero,List.set_cons_succ,i64_w,i32_w]
               rfl
              refine take_ (i:=3) (N:=some 107) (v:=?_) (a':=?_) #[true,false,true,true,false] rfl rfl (by kernel_rfl) (fun _ _ _ h=>h) (Or.inl ⟨by rfl,?_⟩) hHeld ?_ ?_
              rotate_left
              ·
               rintro w' ⟨s0,s1⟩
               go_simp
               with_reducible rfl
              rotate_left
              ·
               simp only [Act.put,List.setIfInBounds_toArray,List.set_cons_zero,List.set_cons_succ,i64_w,i32_w]
               rfl
              refine one_ (i:=1) (N:=some 105) #[true,true,true,true,false] rfl rfl (by kernel_rfl) (by decide) (fun K hK=>?_)
              refine goes_ Try.func68 (by kernel_rfl) rfl #[.pointer (some ⟨g564,0,none⟩)] (by rfl) rfl rfl (by (try simp only [List.map_toArray,List.map_cons,List.map_nil]);first|done|rfl|(simp only [List.length_drop,List.length_take];rfl)) ?_
              with_reducible refine (prng_Gen_Used.calls g564 t575 t576 t577 t578 t579 t580 t581 w _ ?side1 ?side2 A29.out).mono ?_
              (case side1=>repeat (first|(with_reducible first|exact HI564.out|apply IsS130.alloc|apply IsS130.drewN|apply IsS130.drew|apply IsS130.set_0|apply IsS130.set_1|apply IsS130.set_2|refine IsS130.far ?_ NB564_567.out _|refine IsS130.far ?_ NB564_569.out _|refine IsS130.far ?_ NB564_573.out _)|exact HI564.out))
              (case side2=>repeat (first|(with_reducible first|exact HB.out|apply below_alloc|apply pw_below_drewN|apply below_drew1|refine below_set ?_ (IsS130.ge HI564.out)|refine below_set ?_ GE567.out|refine below_set ?_ GE569.out|refine below_set ?_ GE573.out)|exact HB.out))
              rintro e w48 ⟨rfl,hi,hb,hk⟩
              refine ⟨_,rfl,?_⟩
              have n0_:=Aside0.mk (KeepBut.blk hk (g':=gb567) (o:=.cells #[.string t570,.int .i64 t571] 83 (0,0)) (by (with_reducible repeat (first|refine blk_drewN ?_ _|refine blk_drew ?_|refine blk_alloc ?_ _));exact BK567.out) NB567_564.out (by simp))
              have n1_:=Aside0.mk (KeepBut.blk hk (g':=gb569) (o:=.cells #[.int .i64 ((rd_T90 l1 x7_2).f0),.int .i64 ((rd_T90 l1 x7_2).f1),.int .i64 ((rd_T90 l1 x7_2).f2)] 90 (0,0)) (by (with_reducible repeat (first|refine blk_drewN ?_ _|refine blk_drew ?_|refine blk_alloc ?_ _));exact BK569.out) NB569_564.out (by simp))
              have n2_:=Aside0.mk (KeepBut.blk hk (g':=gb573) (o:=.cells #[.string t570,.int .i64 t571,.int .i64 t572] 85 (0,0)) (by (with_reducible repeat (first|refine blk_drewN ?_ _|refine blk_drew ?_|refine blk_alloc ?_ _));exact BK573.out) NB573_564.out (by simp))
              have n3_:=Aside0.mk (hb)
              have n4_:=Aside0.mk (hi)
              clear BK567
              clear BK569
              clear BK573
              clear HB
              clear HI564
              have BK567:=n0_
              have BK569:=n1_
              have BK573:=n2_
              have HB:=n3_
              have HI564:=n4_
              clear n0_ n1_ n2_ n3_ n4_
              (try clear hb)
              (try clear hb2)
              (try clear hk)
              (try clear hi)
              refine hK.out _ _ ⟨(blk_cell BK567.out 0).trans rfl,(blk_cell BK567.out 1).trans rfl⟩ (fun hHeld=>?_)
              clear hK K
              refine norm_ (a':=?_) ?_ ?_
              rotate_left
              ·
               show Act.put _ (some 105) _=_
               simp only [Act.put,List.setIfInBounds_toArray,List.set_cons_zero,List.set_cons_succ,i64_w,i32_w]
               rfl
              refine pure_ (i:=4) (N:=some 108) (v:=?_) (a':=?_) #[true,true,true,true,true] rfl rfl (by kernel_rfl) (fun _ _ _ h=>h) (Or.inl ⟨by rfl,?_⟩) ?_ ?_
              rotate_left
              ·
               intro w'
               go_simp
               with_reducible rfl
              rotate_left
              ·
               simp only [Act.put,List.setIfInBounds_toArray,List.set_cons_zero,List.set_cons_succ,i64_w,i32_w]
               rfl
              refine done_ (by kernel_rfl) ?_
              try go_wp2
              go_roundg kj19
              case measure=>have:=HJ3.out;have:=HK2.out;have:=HJ19.out;omega
              case rel=>exact ⟨(wrap64 (x7_2+1)),(t579),(t580),(t581),(t570),(t571),(by first|rfl|(simp;done)|(simp [*];done)),H',⟨by have:=HJ3.out;have:=HK2.out;have:=HJ19.out;omega⟩,⟨by (with_reducible repeat (first|refine blk_drewN ?_ _|refine blk_drew ?_|refine blk_alloc ?_ _));exact BK567.out⟩,⟨by repeat (first|(with_reducible first|exact HI564.out|apply IsS130.alloc|apply IsS130.drewN|apply IsS130.drew|apply IsS130.set_0|apply IsS130.set_1|apply IsS130.set_2|refine IsS130.far ?_ NB564_567.out _|refine IsS130.far ?_ NB564_569.out _|refine IsS130.far ?_ NB564_573.out _)|exact HI564.out)⟩,⟨by repeat (first|(with_reducible first|exact HB.out|apply below_alloc|apply pw_below_drewN|apply below_drew1|refine below_set ?_ (IsS130.ge HI564.out)|refine below_set ?_ GE567.out|refine below_set ?_ GE569.out|refine below_set ?_ GE573.out)|exact HB.out)⟩⟩
             ·
              rw [if_neg c30] at H
              have c30b0:(t578 == t571)=false:=beq_eq_false_iff_ne.mpr c30
              have c30b1:(t578 != t571)=true:=bne_iff_ne.mpr c30
              exact absurd (Option.some.inj H) (by simp)
            ·
             rw [if_neg c28] at H
             have c28b0:((wrap64 (t574)) == t572)=false:=beq_eq_false_iff_ne.mpr c28
             have c28b1:((wrap64 (t574)) != t572)=true:=bne_iff_ne.mpr c28
             exact absurd (Option.some.inj H) (by simp)
           ·
            rw [if_neg c25] at H
            have c25b0:(((rd_T90 l1 x7_2).f0) == 0)=false:=beq_eq_false_iff_ne.mpr c25
            have c25b1:(((rd_T90 l1 x7_2).f0) != 0)=true:=bne_iff_ne.mpr c25
            by_cases c83:((rd_T90 l1 x7_2).f0)=1
            ·
             rw [if_pos c83] at H
             have c83b0:(((rd_T90 l1 x7_2).f0) == 1)=true:=beq_iff_eq.mpr c83
             have c83b1:(((rd_T90 l1 x7_2).f0) != 1)=false:=bne_eq_false_iff_eq.mpr c83
             clear c83
             replace H:=Option.bind_eq_some_iff.mp H
             obtain ⟨⟨t582,t583,t584⟩,A840,H⟩:=H
             replace H:((prng_Gen_Below.f kj19 x565000_2 x565001_2 x565002_2 ((rd_T90 l1 x7_2).f1)).bind fun bt586=>(if bt586.1=t584 then ((prng_Gen_Used.f bt586.2.1 bt586.2.2.1 bt586.2.2.2).bind fun bt590=>(if bt590.1=t583 then (mosaiclaw04_PrngDraws.l0 kj19 l1 (wrap64 (x7_2+1)) bt590.2.1 bt590.2.2.1 bt590.2.2.2 t582 t583) else (some false))) else (some false)))=some true:=H
             have A84:=Aside0.mk A840
             clear A840
             replace H:=Option.bind_eq_some_iff.mp H
             obtain ⟨⟨t586,t587,t588,t589⟩,A850,H⟩:=H
             replace H:(if t586=t584 then ((prng_Gen_Used.f t587 t588 t589).bind fun bt590=>(if bt590.1=t583 then (mosaiclaw04_PrngDraws.l0 kj19 l1 (wrap64 (x7_2+1)) bt590.2.1 bt590.2.2.1 bt590.2.2.2 t582 t583) else (some false))) else (some false))=some true:=H
             have A85:=Aside0.mk A850
             clear A850
             by_cases c86:t586=t584
             ·
              rw [if_pos c86] at H
              have c86b0:(t586 == t584)=true:=beq_iff_eq.mpr c86
              have c86b1:(t586 != t584)=false:=bne_eq_false_iff_eq.mpr c86
              clear c86
              replace H:=Option.bind_eq_some_iff.mp H
              obtain ⟨⟨t590,t591,t592,t593⟩,A870,H⟩:=H
              replace H:(if t590=t583 then (mosaiclaw04_PrngDraws.l0 kj19 l1 (wrap64 (x7_2+1)) t591 t592 t593 t582 t583) else (some false))=some true:=H
              have A87:=Aside0.mk A870
              clear A870
              by_cases c88:t590=t583
              ·
               rw [if_pos c88] at H
               have c88b0:(t590 == t583)=true:=beq_iff_eq.mpr c88
               have c88b1:(t590 != t583)=false:=bne_eq_false_iff_eq.mpr c88
               clear c88
               have H':=Aside0.mk H
               clear H
               have p568:0≤(x7_2:Int):=of_decide_eq_true (by first|(with_reducible assumption)|assumption)
               have q568:x7_2 < (l1.length:Int):=of_decide_eq_true (by first|(with_reducible assumption)|assumption)
               obtain ⟨ad568,e568,hx568_0,hx568_1,hx568_2⟩:=at_T90 HR1.out x7_2 p568 q568
               cases e568
               replace hx568_0:=(HB.out.cell (World.block_lt_of_cell? w _ hx568_0)).trans hx568_0
               replace hx568_1:=(HB.out.cell (World.block_lt_of_cell? w _ hx568_1)).trans hx568_1
               replace hx568_2:=(HB.out.cell (World.block_lt_of_cell? w _ hx568_2)).trans hx568_2
               replace p568:=eq_true p568
               replace q568:=eq_true q568
               try go_wp2_with (first|((with_reducible refine gate_dst (N:=8) rfl ?_);(try (refine gate_guard (by rfl) ?_;dsimp only));refine box_event ?hg (N:=8) ?hd (cs:=#[.int .i64 0,.int .i64 0,.int .i64 0]) (t:=90) ?hr ?_;(case hd=>rfl);(case hg=>rfl);(case hr=>first|(go_simp;done)|(go_simp;rfl));intro gb569 hg w89 hbox hb;have n0_:=Aside0.mk (blk_below (g:=gb567) (o:=.cells #[.string x568000_2,.int .i64 x568001_2] 83 (0,0)) (by (with_reducible repeat (first|refine blk_drewN ?_ _|refine blk_drew ?_|refine blk_alloc ?_ _));exact BK567.out) hb);have n1_:=Aside0.mk (IsS130.below (by repeat (first|(with_reducible first|exact HI564.out|apply IsS130.alloc|apply IsS130.drewN|apply IsS130.drew|apply IsS130.set_0|apply IsS130.set_1|apply IsS130.set_2|refine IsS130.far ?_ NB564_567.out _)|exact HI564.out)) hb);have n2_:=Aside0.mk (below_step (by repeat (first|(with_reducible first|exact HB.out|apply below_alloc|apply pw_below_drewN|apply below_drew1|refine below_set ?_ (IsS130.ge HI564.out)|refine below_set ?_ GE567.out)|exact HB.out)) hb);have n3_:=Aside0.mk (hbox);have n4_:=Aside0.mk ((by rw [hg];exact (below_size (by repeat (first|(with_reducible first|exact HB.out|apply below_alloc|apply pw_below_drewN|apply below_drew1|refine below_set ?_ (IsS130.ge HI564.out)|refine below_set ?_ GE567.out)|exact HB.out))):w.heap.size≤gb569));have n5_:=Aside0.mk ((by rw [hg];exact (below_size (by repeat (first|(with_reducible first|exact HB.out|apply below_alloc|apply pw_below_drewN|apply below_drew1|refine below_set ?_ (IsS130.ge HI564.out)|refine below_set ?_ GE567.out)|exact HB.out))):w.heap.size≤gb569));have n6_:=Aside0.mk ((by rw [hg];exact Nat.ne_of_lt (blk_lt (g:=gb567) (o:=.cells #[.string x568000_2,.int .i64 x568001_2] 83 (0,0)) (by (with_reducible repeat (first|refine blk_drewN ?_ _|refine blk_drew ?_|refine blk_alloc ?_ _));exact BK567.out)):gb567≠gb569));have n7_:=Aside0.mk ((by rw [hg];exact Nat.ne_of_gt (blk_lt (g:=gb567) (o:=.cells #[.string x568000_2,.int .i64 x568001_2] 83 (0,0)) (by (with_reducible repeat (first|refine blk_drewN ?_ _|refine blk_drew ?_|refine blk_alloc ?_ _));exact BK567.out)):gb569≠gb567));have n8_:=Aside0.mk ((by rw [hg];exact Nat.ne_of_lt (IsS130.lt (show IsS130 w _ g564 x565000_2 x565001_2 x565002_2 from by repeat (first|(with_reducible first|exact HI564.out|apply IsS130.alloc|apply IsS130.drewN|apply IsS130.drew|apply IsS130.set_0|apply IsS130.set_1|apply IsS130.set_2|refine IsS130.far ?_ NB564_567.out _)|exact HI564.out))):g564≠gb569));have n9_:=Aside0.mk ((by rw [hg];exact Nat.ne_of_gt (IsS130.lt (show IsS130 w _ g564 x565000_2 x565001_2 x565002_2 from by repeat (first|(with_reducible first|exact HI564.out|apply IsS130.alloc|apply IsS130.drewN|apply IsS130.drew|apply IsS130.set_0|apply IsS130.set_1|apply IsS130.set_2|refine IsS130.far ?_ NB564_567.out _)|exact HI564.out))):gb569≠g564));clear BK567;clear HI564;clear HB;have BK567:=n0_;have HI564:=n1_;have HB:=n2_;have BK569:=n3_;have GW569:=n4_;have GE569:=n5_;have NB567_569:=n6_;have NB569_567:=n7_;have NB564_569:=n8_;have NB569_564:=n9_;clear n0_ n1_ n2_ n3_ n4_ n5_ n6_ n7_ n8_ n9_;clear hb hbox hg;have hnb90:=NB569_567.out;have hnc90:=NB567_569.out;have hnb91:=NB569_564.out;have hnc91:=NB564_569.out;have hcz92_0:w89.cell? ⟨gb569,0,none⟩=some (.int .i64 0):=(blk_cell BK569.out 0).trans rfl;have hcz92_1:w89.cell? ⟨gb569,1,none⟩=some (.int .i64 0):=(blk_cell BK569.out 1).trans rfl;have hcz92_2:w89.cell? ⟨gb569,2,none⟩=some (.int .i64 0):=(blk_cell BK569.out 2).trans rfl;have hfz92_0:=blk_frozen BK569.out 0;have hfz92_1:=blk_frozen BK569.out 1;have hfz92_2:=blk_frozen BK569.out 2;have hnb93:=NB567_564.out;have hnc93:=NB564_567.out;have hcz94_0:w89.cell? ⟨gb567,0,none⟩=some (.string x568000_2):=(blk_cell BK567.out 0).trans rfl;have hcz94_1:w89.cell? ⟨gb567,1,none⟩=some (.int .i64 x568001_2):=(blk_cell BK567.out 1).trans rfl;have hfz94_0:=blk_frozen BK567.out 0;have hfz94_1:=blk_frozen BK567.out 1)|((with_reducible refine gate_callee (f:=69) rfl ?_);refine goesL_ (some 65) rfl rfl Try.func69 (by kernel_rfl) rfl #[.agg #[.string x568000_2,.int .i64 x568001_2],.int .i64 ((rd_T90 l1 x7_2).f1)] rfl (by (try simp only [List.map_toArray,List.map_cons,List.map_nil]);first|done|rfl|(simp only [List.length_drop,List.length_take];rfl)) ?_;(with_reducible refine (mosaicref04_Gen_Below.calls kj19 x568000_2 x568001_2 ((rd_T90 l1 x7_2).f1) t582 t583 t584 _ A84.out).mono ?_);rintro e w95 ⟨rfl,hb⟩;refine ⟨_,rfl,?_⟩;have n0_:=Aside0.mk (blk_below (g:=gb567) (o:=.cells #[.string x568000_2,.int .i64 x568001_2] 83 (0,0)) (by (with_reducible repeat (first|refine blk_drewN ?_ _|refine blk_drew ?_|refine blk_alloc ?_ _));refine blk_far ?_ NB567_569.out _;(with_reducible repeat (first|refine blk_drewN ?_ _|refine blk_drew ?_|refine blk_alloc ?_ _));refine blk_far ?_ NB567_569.out _;(with_reducible repeat (first|refine blk_drewN ?_ _|refine blk_drew ?_|refine blk_alloc ?_ _));refine blk_far ?_ NB567_569.out _;(with_reducible repeat (first|refine blk_drewN ?_ _|refine blk_drew ?_|refine blk_alloc ?_ _));exact BK567.out) hb);have n1_:=Aside0.mk (IsS130.below (show IsS130 w (((w89.setCell ⟨gb569,0,none⟩ (.int .i64 ((rd_T90 l1 x7_2).f0))).setCell ⟨gb569,1,none⟩ (.int .i64 ((rd_T90 l1 x7_2).f1))).setCell ⟨gb569,2,none⟩ (.int .i64 ((rd_T90 l1 x7_2).f2))) g564 x565000_2 x565001_2 x565002_2 from by repeat (first|(with_reducible first|exact HI564.out|apply IsS130.alloc|apply IsS130.drewN|apply IsS130.drew|apply IsS130.set_0|apply IsS130.set_1|apply IsS130.set_2|refine IsS130.far ?_ NB564_567.out _|refine IsS130.far ?_ NB564_569.out _)|exact HI564.out)) hb);have n2_:=Aside0.mk (blk_below (g:=gb569) (o:=.cells #[.int .i64 ((rd_T90 l1 x7_2).f0),.int .i64 ((rd_T90 l1 x7_2).f1),.int .i64 ((rd_T90 l1 x7_2).f2)] 90 (0,0)) (by (with_reducible repeat (first|refine blk_drewN ?_ _|refine blk_drew ?_|refine blk_alloc ?_ _));refine blk_put (cs:=#[.int .i64 ((rd_T90 l1 x7_2).f0),.int .i64 ((rd_T90 l1 x7_2).f1),.int .i64 0]) ?_ 2 _ rfl;(with_reducible repeat (first|refine blk_drewN ?_ _|refine blk_drew ?_|refine blk_alloc ?_ _));refine blk_put (cs:=#[.int .i64 ((rd_T90 l1 x7_2).f0),.int .i64 0,.int .i64 0]) ?_ 1 _ rfl;(with_reducible repeat (first|refine blk_drewN ?_ _|refine blk_drew ?_|refine blk_alloc ?_ _));refine blk_put (cs:=#[.int .i64 0,.int .i64 0,.int .i64 0]) ?_ 0 _ rfl;(with_reducible repeat (first|refine blk_drewN ?_ _|refine blk_drew ?_|refine blk_alloc ?_ _));exact BK569.out) hb);have n3_:=Aside0.mk (below_step (by repeat (first|(with_reducible first|exact HB.out|apply below_alloc|apply pw_below_drewN|apply below_drew1|refine below_set ?_ (IsS130.ge HI564.out)|refine below_set ?_ GE567.out|refine below_set ?_ GE569.out)|exact HB.out)) hb);clear BK567;clear HI564;clear BK569;clear HB;have BK567:=n0_;have HI564:=n1_;have BK569:=n2_;have HB:=n3_;clear n0_ n1_ n2_ n3_;(try clear hb);(try clear hb2);(try clear hk);(try clear hi))|((with_reducible refine gate_dst (N:=10) rfl ?_);(try (refine gate_guard (by rfl) ?_;dsimp only));refine box_event ?hg (N:=10) ?hd (cs:=#[.string (⟨#[]⟩:ByteArray),.int .i64 0,.int .i64 0]) (t:=85) ?hr ?_;(case hd=>rfl);(case hg=>rfl);(case hr=>first|(go_simp;done)|(go_simp;rfl));intro gb585 hg w96 hbox hb;have n0_:=Aside0.mk (blk_below (g:=gb567) (o:=.cells #[.string x568000_2,.int .i64 x568001_2] 83 (0,0)) (by (with_reducible repeat (first|refine blk_drewN ?_ _|refine blk_drew ?_|refine blk_alloc ?_ _));exact BK567.out) hb);have n1_:=Aside0.mk (IsS130.below (by repeat (first|(with_reducible first|exact HI564.out|apply IsS130.alloc|apply IsS130.drewN|apply IsS130.drew|apply IsS130.set_0|apply IsS130.set_1|apply IsS130.set_2|refine IsS130.far ?_ NB564_567.out _|refine IsS130.far ?_ NB564_569.out _)|exact HI564.out)) hb);have n2_:=Aside0.mk (blk_below (g:=gb569) (o:=.cells #[.int .i64 ((rd_T90 l1 x7_2).f0),.int .i64 ((rd_T90 l1 x7_2).f1),.int .i64 ((rd_T90 l1 x7_2).f2)] 90 (0,0)) (by (with_reducible repeat (first|refine blk_drewN ?_ _|refine blk_drew ?_|refine blk_alloc ?_ _));exact BK569.out) hb);have n3_:=Aside0.mk (below_step (by repeat (first|(with_reducible first|exact HB.out|apply below_alloc|apply pw_below_drewN|apply below_drew1|refine below_set ?_ (IsS130.ge HI564.out)|refine below_set ?_ GE567.out|refine below_set ?_ GE569.out)|exact HB.out)) hb);have n4_:=Aside0.mk (hbox);have n5_:=Aside0.mk ((by rw [hg];exact (below_size (by repeat (first|(with_reducible first|exact HB.out|apply below_alloc|apply pw_below_drewN|apply below_drew1|refine below_set ?_ (IsS130.ge HI564.out)|refine below_set ?_ GE567.out|refine below_set ?_ GE569.out)|exact HB.out))):w.heap.size≤gb585));have n6_:=Aside0.mk ((by rw [hg];exact (below_size (by repeat (first|(with_reducible first|exact HB.out|apply below_alloc|apply pw_below_drewN|apply below_drew1|refine below_set ?_ (IsS130.ge HI564.out)|refine below_set ?_ GE567.out|refine below_set ?_ GE569.out)|exact HB.out))):w.heap.size≤gb585));have n7_:=Aside0.mk ((by rw [hg];exact Nat.ne_of_lt (blk_lt (g:=gb567) (o:=.cells #[.string x568000_2,.int .i64 x568001_2] 83 (0,0)) (by (with_reducible repeat (first|refine blk_drewN ?_ _|refine blk_drew ?_|refine blk_alloc ?_ _));exact BK567.out)):gb567≠gb585));have n8_:=Aside0.mk ((by rw [hg];exact Nat.ne_of_gt (blk_lt (g:=gb567) (o:=.cells #[.string x568000_2,.int .i64 x568001_2] 83 (0,0)) (by (with_reducible repeat (first|refine blk_drewN ?_ _|refine blk_drew ?_|refine blk_alloc ?_ _));exact BK567.out)):gb585≠gb567));have n9_:=Aside0.mk ((by rw [hg];exact Nat.ne_of_lt (blk_lt (g:=gb569) (o:=.cells #[.int .i64 ((rd_T90 l1 x7_2).f0),.int .i64 ((rd_T90 l1 x7_2).f1),.int .i64 ((rd_T90 l1 x7_2).f2)] 90 (0,0)) (by (with_reducible repeat (first|refine blk_drewN ?_ _|refine blk_drew ?_|refine blk_alloc ?_ _));exact BK569.out)):gb569≠gb585));have n10_:=Aside0.mk ((by rw [hg];exact Nat.ne_of_gt (blk_lt (g:=gb569) (o:=.cells #[.int .i64 ((rd_T90 l1 x7_2).f0),.int .i64 ((rd_T90 l1 x7_2).f1),.int .i64 ((rd_T90 l1 x7_2).f2)] 90 (0,0)) (by (with_reducible repeat (first|refine blk_drewN ?_ _|refine blk_drew ?_|refine blk_alloc ?_ _));exact BK569.out)):gb585≠gb569));have n11_:=Aside0.mk ((by rw [hg];exact Nat.ne_of_lt (IsS130.lt (show IsS130 w _ g564 x565000_2 x565001_2 x565002_2 from by repeat (first|(with_reducible first|exact HI564.out|apply IsS130.alloc|apply IsS130.drewN|apply IsS130.drew|apply IsS130.set_0|apply IsS130.set_1|apply IsS130.set_2|refine IsS130.far ?_ NB564_567.out _|refine IsS130.far ?_ NB564_569.out _)|exact HI564.out))):g564≠gb585));have n12_:=Aside0.mk ((by rw [hg];exact Nat.ne_of_gt (IsS130.lt (show IsS130 w _ g564 x565000_2 x565001_2 x565002_2 from by repeat (first|(with_reducible first|exact HI564.out|apply IsS130.alloc|apply IsS130.drewN|apply IsS130.drew|apply IsS130.set_0|apply IsS130.set_1|apply IsS130.set_2|refine IsS130.far ?_ NB564_567.out _|refine IsS130.far ?_ NB564_569.out _)|exact HI564.out))):gb585≠g564));clear BK567;clear HI564;clear BK569;clear HB;have BK567:=n0_;have HI564:=n1_;have BK569:=n2_;have HB:=n3_;have BK585:=n4_;have GW585:=n5_;have GE585:=n6_;have NB567_585:=n7_;have NB585_567:=n8_;have NB569_585:=n9_;have NB585_569:=n10_;have NB564_585:=n11_;have NB585_564:=n12_;clear n0_ n1_ n2_ n3_ n4_ n5_ n6_ n7_ n8_ n9_ n10_ n11_ n12_;clear hb hbox hg;have hnb97:=NB585_567.out;have hnc97:=NB567_585.out;have hnb98:=NB585_569.out;have hnc98:=NB569_585.out;have hnb99:=NB585_564.out;have hnc99:=NB564_585.out;have hcz100_0:w96.cell? ⟨gb585,0,none⟩=some (.string (⟨#[]⟩:ByteArray)):=(blk_cell BK585.out 0).trans rfl;have hcz100_1:w96.cell? ⟨gb585,1,none⟩=some (.int .i64 0):=(blk_cell BK585.out 1).trans rfl;have hcz100_2:w96.cell? ⟨gb585,2,none⟩=some (.int .i64 0):=(blk_cell BK585.out 2).trans rfl;have hfz100_0:=blk_frozen BK585.out 0;have hfz100_1:=blk_frozen BK585.out 1;have hfz100_2:=blk_frozen BK585.out 2;have hcz101_0:w96.cell? ⟨gb567,0,none⟩=some (.string x568000_2):=(blk_cell BK567.out 0).trans rfl;have hcz101_1:w96.cell? ⟨gb567,1,none⟩=some (.int .i64 x568001_2):=(blk_cell BK567.out 1).trans rfl;have hfz101_0:=blk_frozen BK567.out 0;have hfz101_1:=blk_frozen BK567.out 1))
               have n0_:Aside0 ((((((w96.setCell ⟨gb585,0,none⟩ (.string t582)).setCell ⟨gb585,1,none⟩ (.int .i64 t583)).setCell ⟨gb585,2,none⟩ (.int .i64 t584)).setCell ⟨gb567,0,none⟩ (.string t582)).setCell ⟨gb567,1,none⟩ (.int .i64 t583)).heap[gb567]?=some (.cells #[.string t582,.int .i64 t583] 83 (0,0))):=⟨by (with_reducible repeat (first|refine blk_drewN ?_ _|refine blk_drew ?_|refine blk_alloc ?_ _));refine blk_put (cs:=#[.string t582,.int .i64 x568001_2]) ?_ 1 _ rfl;(with_reducible repeat (first|refine blk_drewN ?_ _|refine blk_drew ?_|refine blk_alloc ?_ _));refine blk_put (cs:=#[.string x568000_2,.int .i64 x568001_2]) ?_ 0 _ rfl;(with_reducible repeat (first|refine blk_drewN ?_ _|refine blk_drew ?_|refine blk_alloc ?_ _));refine blk_far ?_ NB567_585.out _;(with_reducible repeat (first|refine blk_drewN ?_ _|refine blk_drew ?_|refine blk_alloc ?_ _));refine blk_far ?_ NB567_585.out _;(with_reducible repeat (first|refine blk_drewN ?_ _|refine blk_drew ?_|refine blk_alloc ?_ _));refine blk_far ?_ NB567_585.out _;(with_reducible repeat (first|refine blk_drewN ?_ _|refine blk_drew ?_|refine blk_alloc ?_ _));exact BK567.out⟩
               have n1_:Aside0 ((((((w96.setCell ⟨gb585,0,none⟩ (.string t582)).setCell ⟨gb585,1,none⟩ (.int .i64 t583)).setCell ⟨gb585,2,none⟩ (.int .i64 t584)).setCell ⟨gb567,0,none⟩ (.string t582)).setCell ⟨gb567,1,none⟩ (.int .i64 t583)).heap[gb569]?=some (.cells #[.int .i64 ((rd_T90 l1 x7_2).f0),.int .i64 ((rd_T90 l1 x7_2).f1),.int .i64 ((rd_T90 l1 x7_2).f2)] 90 (0,0))):=⟨by (with_reducible repeat (first|refine blk_drewN ?_ _|refine blk_drew ?_|refine blk_alloc ?_ _));refine blk_far ?_ NB569_567.out _;(with_reducible repeat (first|refine blk_drewN ?_ _|refine blk_drew ?_|refine blk_alloc ?_ _));refine blk_far ?_ NB569_567.out _;(with_reducible repeat (first|refine blk_drewN ?_ _|refine blk_drew ?_|refine blk_alloc ?_ _));refine blk_far ?_ NB569_585.out _;(with_reducible repeat (first|refine blk_drewN ?_ _|refine blk_drew ?_|refine blk_alloc ?_ _));refine blk_far ?_ NB569_585.out _;(with_reducible repeat (first|refine blk_drewN ?_ _|refine blk_drew ?_|refine blk_alloc ?_ _));refine blk_far ?_ NB569_585.out _;(with_reducible repeat (first|refine blk_drewN ?_ _|refine blk_drew ?_|refine blk_alloc ?_ _));exact BK569.out⟩
               have n2_:Aside0 ((((((w96.setCell ⟨gb585,0,none⟩ (.string t582)).setCell ⟨gb585,1,none⟩ (.int .i64 t583)).setCell ⟨gb585,2,none⟩ (.int .i64 t584)).setCell ⟨gb567,0,none⟩ (.string t582)).setCell ⟨gb567,1,none⟩ (.int .i64 t583)).heap[gb585]?=some (.cells #[.string t582,.int .i64 t583,.int .i64 t584] 85 (0,0))):=⟨by (with_reducible repeat (first|refine blk_drewN ?_ _|refine blk_drew ?_|refine blk_alloc ?_ _));refine blk_far ?_ NB585_567.out _;(with_reducible repeat (first|refine blk_drewN ?_ _|refine blk_drew ?_|refine blk_alloc ?_ _));refine blk_far ?_ NB585_567.out _;(with_reducible repeat (first|refine blk_drewN ?_ _|refine blk_drew ?_|refine blk_alloc ?_ _));refine blk_put (cs:=#[.string t582,.int .i64 t583,.int .i64 0]) ?_ 2 _ rfl;(with_reducible repeat (first|refine blk_drewN ?_ _|refine blk_drew ?_|refine blk_alloc ?_ _));refine blk_put (cs:=#[.string t582,.int .i64 0,.int .i64 0]) ?_ 1 _ rfl;(with_reducible repeat (first|refine blk_drewN ?_ _|refine blk_drew ?_|refine blk_alloc ?_ _));refine blk_put (cs:=#[.string (⟨#[]⟩:ByteArray),.int .i64 0,.int .i64 0]) ?_ 0 _ rfl;(with_reducible repeat (first|refine blk_drewN ?_ _|refine blk_drew ?_|refine blk_alloc ?_ _));exact BK585.out⟩
               have n3_:Aside0 (IsS130 w (((((w96.setCell ⟨gb585,0,none⟩ (.string t582)).setCell ⟨gb585,1,none⟩ (.int .i64 t583)).setCell ⟨gb585,2,none⟩ (.int .i64 t584)).setCell ⟨gb567,0,none⟩ (.string t582)).setCell ⟨gb567,1,none⟩ (.int .i64 t583)) g564 x565000_2 x565001_2 x565002_2):=⟨by repeat (first|(with_reducible first|exact HI564.out|apply IsS130.alloc|apply IsS130.drewN|apply IsS130.drew|apply IsS130.set_0|apply IsS130.set_1|apply IsS130.set_2|refine IsS130.far ?_ NB564_567.out _|refine IsS130.far ?_ NB564_569.out _|refine IsS130.far ?_ NB564_585.out _)|exact HI564.out)⟩
               have n4_:Aside0 (Below w.heap.size w (((((w96.setCell ⟨gb585,0,none⟩ (.string t582)).setCell ⟨gb585,1,none⟩ (.int .i64 t583)).setCell ⟨gb585,2,none⟩ (.int .i64 t584)).setCell ⟨gb567,0,none⟩ (.string t582)).setCell ⟨gb567,1,none⟩ (.int .i64 t583))):=⟨by repeat (first|(with_reducible first|exact HB.out|apply below_alloc|apply pw_below_drewN|apply below_drew1|refine below_set ?_ (IsS130.ge HI564.out)|refine below_set ?_ GE567.out|refine below_set ?_ GE569.out|refine below_set ?_ GE585.out)|exact HB.out)⟩
               (try clear BK567)
               (try clear BK569)
               (try clear BK585)
               (try clear HI564)
               (try clear HB)
               generalize (((((w96.setCell ⟨gb585,0,none⟩ (.string t582)).setCell ⟨gb585,1,none⟩ (.int .i64 t583)).setCell ⟨gb585,2,none⟩ (.int .i64 t584)).setCell ⟨gb567,0,none⟩ (.string t582)).setCell ⟨gb567,1,none⟩ (.int .i64 t583))=w102 at n0_ n1_ n2_ n3_ n4_ ⊢
               have BK567:=n0_
               have BK569:=n1_
               have BK585:=n2_
               have HI564:=n3_
               have HB:=n4_
               clear n0_ n1_ n2_ n3_ n4_
               have n0_:=Aside0.mk (blk_drew BK567.out)
               have n1_:=Aside0.mk (blk_drew BK569.out)
               have n2_:=Aside0.mk (blk_drew BK585.out)
               have n3_:=Aside0.mk (IsS130.drew HI564.out)
               have n4_:=Aside0.mk (below_drew1 HB.out)
               clear BK567
               clear BK569
               clear BK585
               clear HI564
               clear HB
               have BK567:=n0_
               have BK569:=n1_
               have BK585:=n2_
               have HI564:=n3_
               have HB:=n4_
               clear n0_ n1_ n2_ n3_ n4_
               refine start_ (n:=7) (S:=fun w'=>w'.cell? ⟨gb569,0,none⟩=some (.int .i64 ((rd_T90 l1 x7_2).f0))∧w'.cell? ⟨gb569,1,none⟩=some (.int .i64 ((rd_T90 l1 x7_2).f1))∧w'.cell? ⟨gb569,2,none⟩=some (.int .i64 ((rd_T90 l1 x7_2).f2))∧w'.cell? ⟨gb585,0,none⟩=some (.string t582)∧w'.cell? ⟨gb585,1,none⟩=some (.int .i64 t583)∧w'.cell? ⟨gb585,2,none⟩=some (.int .i64 t584)) (ds:=[]) #[false,false,false,false,false,false,false] (by kernel_rfl) rfl rfl ⟨(blk_cell BK569.out 0).trans rfl,(blk_cell BK569.out 1).trans rfl,(blk_cell BK569.out 2).trans rfl,(blk_cell BK585.out 0).trans rfl,(blk_cell BK585.out 1).trans rfl,(blk_cell BK585.out 2).trans rfl⟩ (fun hHeld=>?_)
               generalize w102.drew=w103 at BK567 BK569 BK585 HI564 HB hHeld ⊢
               refine pure_ (i:=0) (N:=some 68) (v:=?_) (a':=?_) #[true,false,false,false,false,false,false] rfl rfl (by kernel_rfl) (fun _ _ _ h=>h) (Or.inl ⟨by rfl,?_⟩) ?_ ?_
               rotate_left
               ·
                intro w'
                go_simp
                with_reducible rfl
               rotate_left
               ·
                simp only [Act.put,List.setIfInBounds_toArray,List.set_cons_zero,List.set_cons_succ,i64_w,i32_w]
                rfl
               refine pure_ (i:=1) (N:=some 69) (v:=?_) (a':=?_) #[true,true,false,false,false,false,false] rfl rfl (by kernel_rfl) (fun _ _ _ h=>h) (Or.inl ⟨by rfl,?_⟩) ?_ ?_
               rotate_left
               ·
                intro w'
                go_simp
                with_reducible rfl
               rotate_left
               ·
                simp only [Act.put,List.setIfInBounds_toArray,List.set_cons_zero,List.set_cons_succ,i64_w,i32_w]
                rfl
               refine pure_ (i:=4) (N:=some 72) (v:=?_) (a':=?_) #[true,true,false,false,true,false,false] rfl rfl (by kernel_rfl) (fun _ _ _ h=>h) (Or.inl ⟨by rfl,?_⟩) ?_ ?_
               rotate_left
               ·
                intro w'
                go_simp
                with_reducible rfl
               rotate_left
               ·
                simp only [Act.put,List.setIfInBounds_toArray,List.set_cons_zero,List.set_cons_succ,i64_w,i32_w]
                rfl
               refine take_ (i:=2) (N:=some 70) (v:=?_) (a':=?_) #[true,true,true,false,true,false,false] rfl rfl (by kernel_rfl) (fun _ _ _ h=>h) (Or.inl ⟨by rfl,?_⟩) hHeld ?_ ?_
               rotate_left
               ·
                rintro w' ⟨s0,s1,s2,s3,s4,s5⟩
                go_simp
                with_reducible rfl
               rotate_left
               ·
                simp only [Act.put,List.setIfInBounds_toArray,List.set_cons_zero,List.set_cons_succ,i64_w,i32_w]
                rfl
               refine take_ (i:=5) (N:=some 73) (v:=?_) (a':=?_) #[true,true,true,false,true,true,false] rfl rfl (by kernel_rfl) (fun _ _ _ h=>h) (Or.inl ⟨by rfl,?_⟩) hHeld ?_ ?_
               rotate_left
               ·
                rintro w' ⟨s0,s1,s2,s3,s4,s5⟩
                go_simp
                with_reducible rfl
               rotate_left
               ·
                simp only [Act.put,List.setIfInBounds_toArray,List.set_cons_zero,List.set_cons_succ,i64_w,i32_w]
                rfl
               refine one_ (i:=3) (N:=some 71) #[true,true,true,true,true,true,false] rfl rfl (by kernel_rfl) (by decide) (fun K hK=>?_)
               refine goes_ Try.func70 (by kernel_rfl) rfl #[.pointer (some ⟨g564,0,none⟩),.int .i64 ((rd_T90 l1 x7_2).f1)] (by rfl) rfl rfl (by (try simp only [List.map_toArray,List.map_cons,List.map_nil]);first|done|rfl|(simp only [List.length_drop,List.length_take];rfl)) ?_
               with_reducible refine (prng_Gen_Below.calls kj19 g564 x565000_2 x565001_2 x565002_2 ((rd_T90 l1 x7_2).f1) t586 t587 t588 t589 w _ ?side1 ?side2 A85.out).mono ?_
               (case side1=>repeat (first|(with_reducible first|exact HI564.out|apply IsS130.alloc|apply IsS130.drewN|apply IsS130.drew|apply IsS130.set_0|apply IsS130.set_1|apply IsS130.set_2|refine IsS130.far ?_ NB564_567.out _|refine IsS130.far ?_ NB564_569.out _|refine IsS130.far ?_ NB564_585.out _)|exact HI564.out))
               (case side2=>repeat (first|(with_reducible first|exact HB.out|apply below_alloc|apply pw_below_drewN|apply below_drew1|refine below_set ?_ (IsS130.ge HI564.out)|refine below_set ?_ GE567.out|refine below_set ?_ GE569.out|refine below_set ?_ GE585.out)|exact HB.out))
               rintro e w104 ⟨rfl,hi,hb,hk⟩
               refine ⟨_,rfl,?_⟩
               have n0_:=Aside0.mk (KeepBut.blk hk (g':=gb567) (o:=.cells #[.string t582,.int .i64 t583] 83 (0,0)) (by (with_reducible repeat (first|refine blk_drewN ?_ _|refine blk_drew ?_|refine blk_alloc ?_ _));exact BK567.out) NB567_564.out (by simp))
               have n1_:=Aside0.mk (KeepBut.blk hk (g':=gb569) (o:=.cells #[.int .i64 ((rd_T90 l1 x7_2).f0),.int .i64 ((rd_T90 l1 x7_2).f1),.int .i64 ((rd_T90 l1 x7_2).f2)] 90 (0,0)) (by (with_reducible repeat (first|refine blk_drewN ?_ _|refine blk_drew ?_|refine blk_alloc ?_ _));exact BK569.out) NB569_564.out (by simp))
               have n2_:=Aside0.mk (KeepBut.blk hk (g':=gb585) (o:=.cells #[.string t582,.int .i64 t583,.int .i64 t584] 85 (0,0)) (by (with_reducible repeat (first|refine blk_drewN ?_ _|refine blk_drew ?_|refine blk_alloc ?_ _));exact BK585.out) NB585_564.out (by simp))
               have n3_:=Aside0.mk (hb)
               have n4_:=Aside0.mk (hi)
               clear BK567
               clear BK569
               clear BK585
               clear HB
               clear HI564
               have BK567:=n0_
               have BK569:=n1_
               have BK585:=n2_
               have HB:=n3_
               have HI564:=n4_
               clear n0_ n1_ n2_ n3_ n4_
               (try clear hb)
               (try clear hb2)
               (try clear hk)
               (try clear hi)
               refine hK.out _ _ ⟨(blk_cell BK569.out 0).trans rfl,(blk_cell BK569.out 1).trans rfl,(blk_cell BK569.out 2).trans rfl,(blk_cell BK585.out 0).trans rfl,(blk_cell BK585.out 1).trans rfl,(blk_cell BK585.out 2).trans rfl⟩ (fun hHeld=>?_)
               clear hK K
               refine norm_ (a':=?_) ?_ ?_
               rotate_left
               ·
                show Act.put _ (some 71) _=_
                simp only [Act.put,List.setIfInBounds_toArray,List.set_cons_zero,List.set_cons_succ,i64_w,i32_w]
                rfl
               refine pure_ (i:=6) (N:=some 74) (v:=?_) (a':=?_) #[true,true,true,true,true,true,true] rfl rfl (by kernel_rfl) (fun _ _ _ h=>h) (Or.inl ⟨by rfl,?_⟩) ?_ ?_
               rotate_left
               ·
                intro w'
                go_simp
                with_reducible rfl
               rotate_left
               ·
                simp only [Act.put,List.setIfInBounds_toArray,List.set_cons_zero,List.set_cons_succ,i64_w,i32_w]
                rfl
               refine done_ (by kernel_rfl) ?_
               try go_wp2
               have n0_:=Aside0.mk (blk_drew BK567.out)
               have n1_:=Aside0.mk (blk_drew BK569.out)
               have n2_:=Aside0.mk (blk_drew BK585.out)
               have n3_:=Aside0.mk (IsS130.drew HI564.out)
               have n4_:=Aside0.mk (below_drew1 HB.out)
               clear BK567
               clear BK569
               clear BK585
               clear HI564
               clear HB
               have BK567:=n0_
               have BK569:=n1_
               have BK585:=n2_
               have HI564:=n3_
               have HB:=n4_
               clear n0_ n1_ n2_ n3_ n4_
               refine start_ (n:=5) (S:=fun w'=>w'.cell? ⟨gb567,0,none⟩=some (.string t582)∧w'.cell? ⟨gb567,1,none⟩=some (.int .i64 t583)) (ds:=[]) #[false,false,false,false,false] (by kernel_rfl) rfl rfl ⟨(blk_cell BK567.out 0).trans rfl,(blk_cell BK567.out 1).trans rfl⟩ (fun hHeld=>?_)
               generalize w104.drew=w105 at BK567 BK569 BK585 HI564 HB hHeld ⊢
               refine pure_ (i:=0) (N:=some 104) (v:=?_) (a':=?_) #[true,false,false,false,false] rfl rfl (by kernel_rfl) (fun _ _ _ h=>h) (Or.inl ⟨by rfl,?_⟩) ?_ ?_
               rotate_left
               ·
                intro w'
                go_simp
                with_reducible rfl
               rotate_left
               ·
                simp only [Act.put,List.setIfInBounds_toArray,List.set_cons_zero,List.set_cons_succ,i64_w,i32_w]
                rfl
               refine pure_ (i:=2) (N:=some 106) (v:=?_) (a':=?_) #[true,false,true,false,false] rfl rfl (by kernel_rfl) (fun _ _ _ h=>h) (Or.inl ⟨by rfl,?_⟩) ?_ ?_
               rotate_left
               ·
                intro w'
                go_simp
                with_reducible rfl
               rotate_left
               ·
                simp only [Act.put,List.setIfInBounds_toArray,List.set_cons_zero,List.set_cons_succ,i64_w,i32_w]
                rfl
               refine take_ (i:=3) (N:=some 107) (v:=?_) (a':=?_) #[true,false,true,true,false] rfl rfl (by kernel_rfl) (fun _ _ _ h=>h) (Or.inl ⟨by rfl,?_⟩) hHeld ?_ ?_
               rotate_left
               ·
                rintro w' ⟨s0,s1⟩
                go_simp
                with_reducible rfl
               rotate_left
               ·
                simp only [Act.put,List.setIfInBounds_toArray,List.set_cons_zero,List.set_cons_succ,i64_w,i32_w]
                rfl
               refine one_ (i:=1) (N:=some 105) #[true,true,true,true,false] rfl rfl (by kernel_rfl) (by decide) (fun K hK=>?_)
               refine goes_ Try.func68 (by kernel_rfl) rfl #[.pointer (some ⟨g564,0,none⟩)] (by rfl) rfl rfl (by (try simp only [List.map_toArray,List.map_cons,List.map_nil]);first|done|rfl|(simp only [List.length_drop,List.length_take];rfl)) ?_
               with_reducible refine (prng_Gen_Used.calls g564 t587 t588 t589 t590 t591 t592 t593 w _ ?side1 ?side2 A87.out).mono ?_
               (case side1=>repeat (first|(with_reducible first|exact HI564.out|apply IsS130.alloc|apply IsS130.drewN|apply IsS130.drew|apply IsS130.set_0|apply IsS130.set_1|apply IsS130.set_2|refine IsS130.far ?_ NB564_567.out _|refine IsS130.far ?_ NB564_569.out _|refine IsS130.far ?_ NB564_585.out _)|exact HI564.out))
               (case side2=>repeat (first|(with_reducible first|exact HB.out|apply below_alloc|apply pw_below_drewN|apply below_drew1|refine below_set ?_ (IsS130.ge HI564.out)|refine below_set ?_ GE567.out|refine below_set ?_ GE569.out|refine below_set ?_ GE585.out)|exact HB.out))
               rintro e w106 ⟨rfl,hi,hb,hk⟩
               refine ⟨_,rfl,?_⟩
               have n0_:=Aside0.mk (KeepBut.blk hk (g':=gb567) (o:=.cells #[.string t582,.int .i64 t583] 83 (0,0)) (by (with_reducible repeat (first|refine blk_drewN ?_ _|refine blk_drew ?_|refine blk_alloc ?_ _));exact BK567.out) NB567_564.out (by simp))
               have n1_:=Aside0.mk (KeepBut.blk hk (g':=gb569) (o:=.cells #[.int .i64 ((rd_T90 l1 x7_2).f0),.int .i64 ((rd_T90 l1 x7_2).f1),.int .i64 ((rd_T90 l1 x7_2).f2)] 90 (0,0)) (by (with_reducible repeat (first|refine blk_drewN ?_ _|refine blk_drew ?_|refine blk_alloc ?_ _));exact BK569.out) NB569_564.out (by simp))
               have n2_:=Aside0.mk (KeepBut.blk hk (g':=gb585) (o:=.cells #[.string t582,.int .i64 t583,.int .i64 t584] 85 (0,0)) (by (with_reducible repeat (first|refine blk_drewN ?_ _|refine blk_drew ?_|refine blk_alloc ?_ _));exact BK585.out) NB585_564.out (by simp))
               have n3_:=Aside0.mk (hb)
               have n4_:=Aside0.mk (hi)
               clear BK567
               clear BK569
               clear BK585
               clear HB
               clear HI564
               have BK567:=n0_
               have BK569:=n1_
               have BK585:=n2_
               have HB:=n3_
               have HI564:=n4_
               clear n0_ n1_ n2_ n3_ n4_
               (try clear hb)
               (try clear hb2)
               (try clear hk)
               (try clear hi)
               refine hK.out _ _ ⟨(blk_cell BK567.out 0).trans rfl,(blk_cell BK567.out 1).trans rfl⟩ (fun hHeld=>?_)
               clear hK K
               refine norm_ (a':=?_) ?_ ?_
               rotate_left
               ·
                show Act.put _ (some 105) _=_
                simp only [Act.put,List.setIfInBounds_toArray,List.set_cons_zero,List.set_cons_succ,i64_w,i32_w]
                rfl
               refine pure_ (i:=4) (N:=some 108) (v:=?_) (a':=?_) #[true,true,true,true,true] rfl rfl (by kernel_rfl) (fun _ _ _ h=>h) (Or.inl ⟨by rfl,?_⟩) ?_ ?_
               rotate_left
               ·
                intro w'
                go_simp
                with_reducible rfl
               rotate_left
               ·
                simp only [Act.put,List.setIfInBounds_toArray,List.set_cons_zero,List.set_cons_succ,i64_w,i32_w]
                rfl
               refine done_ (by kernel_rfl) ?_
               try go_wp2
               go_roundg kj19
               case measure=>have:=HJ3.out;have:=HK2.out;have:=HJ19.out;omega
               case rel=>exact ⟨(wrap64 (x7_2+1)),(t591),(t592),(t593),(t582),(t583),(by first|rfl|(simp;done)|(simp [*];done)),H',⟨by have:=HJ3.out;have:=HK2.out;have:=HJ19.out;omega⟩,⟨by (with_reducible repeat (first|refine blk_drewN ?_ _|refine blk_drew ?_|refine blk_alloc ?_ _));exact BK567.out⟩,⟨by repeat (first|(with_reducible first|exact HI564.out|apply IsS130.alloc|apply IsS130.drewN|apply IsS130.drew|apply IsS130.set_0|apply IsS130.set_1|apply IsS130.set_2|refine IsS130.far ?_ NB564_567.out _|refine IsS130.far ?_ NB564_569.out _|refine IsS130.far ?_ NB564_585.out _)|exact HI564.out)⟩,⟨by repeat (first|(with_reducible first|exact HB.out|apply below_alloc|apply pw_below_drewN|apply below_drew1|refine below_set ?_ (IsS130.ge HI564.out)|refine below_set ?_ GE567.out|refine below_set ?_ GE569.out|refine below_set ?_ GE585.out)|exact HB.out)⟩⟩
              ·
               rw [if_neg c88] at H
               have c88b0:(t590 == t583)=false:=beq_eq_false_iff_ne.mpr c88
               have c88b1:(t590 != t583)=true:=bne_iff_ne.mpr c88
               exact absurd (Option.some.inj H) (by simp)
             ·
              rw [if_neg c86] at H
              have c86b0:(t586 == t584)=false:=beq_eq_false_iff_ne.mpr c86
              have c86b1:(t586 != t584)=true:=bne_iff_ne.mpr c86
              exact absurd (Option.some.inj H) (by simp)
            ·
             rw [if_neg c83] at H
             have c83b0:(((rd_T90 l1 x7_2).f0) == 1)=false:=beq_eq_false_iff_ne.mpr c83
             have c83b1:(((rd_T90 l1 x7_2).f0) != 1)=true:=bne_iff_ne.mpr c83
             by_cases c141:((rd_T90 l1 x7_2).f0)=2
             ·
              rw [if_pos c141] at H
              have c141b0:(((rd_T90 l1 x7_2).f0) == 2)=true:=beq_iff_eq.mpr c141
              have c141b1:(((rd_T90 l1 x7_2).f0) != 2)=false:=bne_eq_false_iff_eq.mpr c141
              clear c141
              have HC142:=Aside0.mk H
              clear H
              have p568:0≤(x7_2:Int):=of_decide_eq_true (by first|(with_reducible assumption)|assumption)
              have q568:x7_2 < (l1.length:Int):=of_decide_eq_true (by first|(with_reducible assumption)|assumption)
              obtain ⟨ad568,e568,hx568_0,hx568_1,hx568_2⟩:=at_T90 HR1.out x7_2 p568 q568
              cases e568
              replace hx568_0:=(HB.out.cell (World.block_lt_of_cell? w _ hx568_0)).trans hx568_0
              replace hx568_1:=(HB.out.cell (World.block_lt_of_cell? w _ hx568_1)).trans hx568_1
              replace hx568_2:=(HB.out.cell (World.block_lt_of_cell? w _ hx568_2)).trans hx568_2
              replace p568:=eq_true p568
              replace q568:=eq_true q568
              go_upto_region 21 with (first|((with_reducible refine gate_dst (N:=8) rfl ?_);(try (refine gate_guard (by rfl) ?_;dsimp only));refine box_event ?hg (N:=8) ?hd (cs:=#[.int .i64 0,.int .i64 0,.int .i64 0]) (t:=90) ?hr ?_;(case hd=>rfl);(case hg=>rfl);(case hr=>first|(go_simp;done)|(go_simp;rfl));intro gb569 hg w143 hbox hb;have n0_:=Aside0.mk (blk_below (g:=gb567) (o:=.cells #[.string x568000_2,.int .i64 x568001_2] 83 (0,0)) (by (with_reducible repeat (first|refine blk_drewN ?_ _|refine blk_drew ?_|refine blk_alloc ?_ _));exact BK567.out) hb);have n1_:=Aside0.mk (IsS130.below (by repeat (first|(with_reducible first|exact HI564.out|apply IsS130.alloc|apply IsS130.drewN|apply IsS130.drew|apply IsS130.set_0|apply IsS130.set_1|apply IsS130.set_2|refine IsS130.far ?_ NB564_567.out _)|exact HI564.out)) hb);have n2_:=Aside0.mk (below_step (by repeat (first|(with_reducible first|exact HB.out|apply below_alloc|apply pw_below_drewN|apply below_drew1|refine below_set ?_ (IsS130.ge HI564.out)|refine below_set ?_ GE567.out)|exact HB.out)) hb);have n3_:=Aside0.mk (hbox);have n4_:=Aside0.mk ((by rw [hg];exact (below_size (by repeat (first|(with_reducible first|exact HB.out|apply below_alloc|apply pw_below_drewN|apply below_drew1|refine below_set ?_ (IsS130.ge HI564.out)|refine below_set ?_ GE567.out)|exact HB.out))):w.heap.size≤gb569));have n5_:=Aside0.mk ((by rw [hg];exact (below_size (by repeat (first|(with_reducible first|exact HB.out|apply below_alloc|apply pw_below_drewN|apply below_drew1|refine below_set ?_ (IsS130.ge HI564.out)|refine below_set ?_ GE567.out)|exact HB.out))):w.heap.size≤gb569));have n6_:=Aside0.mk ((by rw [hg];exact Nat.ne_of_lt (blk_lt (g:=gb567) (o:=.cells #[.string x568000_2,.int .i64 x568001_2] 83 (0,0)) (by (with_reducible repeat (first|refine blk_drewN ?_ _|refine blk_drew ?_|refine blk_alloc ?_ _));exact BK567.out)):gb567≠gb569));have n7_:=Aside0.mk ((by rw [hg];exact Nat.ne_of_gt (blk_lt (g:=gb567) (o:=.cells #[.string x568000_2,.int .i64 x568001_2] 83 (0,0)) (by (with_reducible repeat (first|refine blk_drewN ?_ _|refine blk_drew ?_|refine blk_alloc ?_ _));exact BK567.out)):gb569≠gb567));have n8_:=Aside0.mk ((by rw [hg];exact Nat.ne_of_lt (IsS130.lt (show IsS130 w _ g564 x565000_2 x565001_2 x565002_2 from by repeat (first|(with_reducible first|exact HI564.out|apply IsS130.alloc|apply IsS130.drewN|apply IsS130.drew|apply IsS130.set_0|apply IsS130.set_1|apply IsS130.set_2|refine IsS130.far ?_ NB564_567.out _)|exact HI564.out))):g564≠gb569));have n9_:=Aside0.mk ((by rw [hg];exact Nat.ne_of_gt (IsS130.lt (show IsS130 w _ g564 x565000_2 x565001_2 x565002_2 from by repeat (first|(with_reducible first|exact HI564.out|apply IsS130.alloc|apply IsS130.drewN|apply IsS130.drew|apply IsS130.set_0|apply IsS130.set_1|apply IsS130.set_2|refine IsS130.far ?_ NB564_567.out _)|exact HI564.out))):gb569≠g564));clear BK567;clear HI564;clear HB;have BK567:=n0_;have HI564:=n1_;have HB:=n2_;have BK569:=n3_;have GW569:=n4_;have GE569:=n5_;have NB567_569:=n6_;have NB569_567:=n7_;have NB564_569:=n8_;have NB569_564:=n9_;clear n0_ n1_ n2_ n3_ n4_ n5_ n6_ n7_ n8_ n9_;clear hb hbox hg;have hnb144:=NB569_567.out;have hnc144:=NB567_569.out;have hnb145:=NB569_564.out;have hnc145:=NB564_569.out;have hcz146_0:w143.cell? ⟨gb569,0,none⟩=some (.int .i64 0):=(blk_cell BK569.out 0).trans rfl;have hcz146_1:w143.cell? ⟨gb569,1,none⟩=some (.int .i64 0):=(blk_cell BK569.out 1).trans rfl;have hcz146_2:w143.cell? ⟨gb569,2,none⟩=some (.int .i64 0):=(blk_cell BK569.out 2).trans rfl;have hfz146_0:=blk_frozen BK569.out 0;have hfz146_1:=blk_frozen BK569.out 1;have hfz146_2:=blk_frozen BK569.out 2))
              (try simp only [Act.put,List.setIfInBounds_toArray,List.set_cons_zero,List.set_cons_succ])
              go_cut [84] (fun v84 wc=>∃ (kq:Nat) (x84_141:Bool),v84=.bool x84_141∧Aside0 (mosaiclaw04_PrngDraws.j3 kq l1 x7_2 x84_141 x565000_2 x565001_2 x565002_2 x568000_2 x568001_2 ((rd_T90 l1 x7_2).f0) ((rd_T90 l1 x7_2).f1) ((rd_T90 l1 x7_2).f2)=some true)∧Aside0 (kq≤kj19)∧Aside0 (wc.heap[gb567]?=some (.cells #[.string x568000_2,.int .i64 x568001_2] 83 (0,0)))∧Aside0 (wc.heap[gb569]?=some (.cells #[.int .i64 ((rd_T90 l1 x7_2).f0),.int .i64 ((rd_T90 l1 x7_2).f1),.int .i64 ((rd_T90 l1 x7_2).f2)] 90 (0,0)))∧Aside0 (IsS130 w wc g564 x565000_2 x565001_2 x565002_2)∧Aside0 (Below w.heap.size w wc))
              case first =>
               have H:=HC142.out
               clear HC142
               by_cases c147:((rd_T90 l1 x7_2).f1) > 200
               ·
                rw [if_pos c147] at H
                have c147b0:decide (200 < ((rd_T90 l1 x7_2).f1))=true:=decide_eq_true c147
                clear c147
                (first|rw [c147b0]|(simp only [i64_w,i32_w];rw [c147b0])|skip)
                have H':=Aside0.mk H
                clear H
                have hnb148:=NB569_567.out
                have hnc148:=NB567_569.out
                have hnb149:=NB569_564.out
                have hnc149:=NB564_569.out
                have hcz150_0:w143.cell? ⟨gb569,0,none⟩=some (.int .i64 0):=(blk_cell BK569.out 0).trans rfl
                have hcz150_1:w143.cell? ⟨gb569,1,none⟩=some (.int .i64 0):=(blk_cell BK569.out 1).trans rfl
                have hcz150_2:w143.cell? ⟨gb569,2,none⟩=some (.int .i64 0):=(blk_cell BK569.out 2).trans rfl
                have hfz150_0:=blk_frozen BK569.out 0
                have hfz150_1:=blk_frozen BK569.out 1
                have hfz150_2:=blk_frozen BK569.out 2
                go_wp2
                go_meet
                case rel=>exact ⟨_,(decide (((rd_T90 l1 x7_2).f1)≤4096)),(by first|rfl|(simp;done)|(simp [*];done)),H',⟨by have:=HJ3.out;have:=HK2.out;have:=HJ19.out;first|omega|exact Nat.le_refl _⟩,⟨by (with_reducible repeat (first|refine blk_drewN ?_ _|refine blk_drew ?_|refine blk_alloc ?_ _));refine blk_far ?_ NB567_569.out _;(with_reducible repeat (first|refine blk_drewN ?_ _|refine blk_drew ?_|refine blk_alloc ?_ _));refine blk_far ?_ NB567_569.out _;(with_reducible repeat (first|refine blk_drewN ?_ _|refine blk_drew ?_|refine blk_alloc ?_ _));refine blk_far ?_ NB567_569.out _;(with_reducible repeat (first|refine blk_drewN ?_ _|refine blk_drew ?_|refine blk_alloc ?_ _));exact BK567.out⟩,⟨by (with_reducible repeat (first|refine blk_drewN ?_ _|refine blk_drew ?_|refine blk_alloc ?_ _));refine blk_put (cs:=#[.int .i64 ((rd_T90 l1 x7_2).f0),.int .i64 ((rd_T90 l1 x7_2).f1),.int .i64 0]) ?_ 2 _ rfl;(with_reducible repeat (first|refine blk_drewN ?_ _|refine blk_drew ?_|refine blk_alloc ?_ _));refine blk_put (cs:=#[.int .i64 ((rd_T90 l1 x7_2).f0),.int .i64 0,.int .i64 0]) ?_ 1 _ rfl;(with_reducible repeat (first|refine blk_drewN ?_ _|refine blk_drew ?_|refine blk_alloc ?_ _));refine blk_put (cs:=#[.int .i64 0,.int .i64 0,.int .i64 0]) ?_ 0 _ rfl;(with_reducible repeat (first|refine blk_drewN ?_ _|refine blk_drew ?_|refine blk_alloc ?_ _));exact BK569.out⟩,⟨by repeat (first|(with_reducible first|exact HI564.out|apply IsS130.alloc|apply IsS130.drewN|apply IsS130.drew|apply IsS130.set_0|apply IsS130.set_1|apply IsS130.set_2|refine IsS130.far ?_ NB564_567.out _|refine IsS130.far ?_ NB564_569.out _)|exact HI564.out)⟩,⟨by repeat (first|(with_reducible first|exact HB.out|apply below_alloc|apply pw_below_drewN|apply below_drew1|refine below_set ?_ (IsS130.ge HI564.out)|refine below_set ?_ GE567.out|refine below_set ?_ GE569.out)|exact HB.out)⟩⟩
               ·
                rw [if_neg c147] at H
                have c147b0:decide (200 < ((rd_T90 l1 x7_2).f1))=false:=decide_eq_false c147
                clear c147
                (first|rw [c147b0]|(simp only [i64_w,i32_w];rw [c147b0])|skip)
                have H':=Aside0.mk H
                clear H
                have hnb151:=NB569_567.out
                have hnc151:=NB567_569.out
                have hnb152:=NB569_564.out
                have hnc152:=NB564_569.out
                have hcz153_0:w143.cell? ⟨gb569,0,none⟩=some (.int .i64 0):=(blk_cell BK569.out 0).trans rfl
                have hcz153_1:w143.cell? ⟨gb569,1,none⟩=some (.int .i64 0):=(blk_cell BK569.out 1).trans rfl
                have hcz153_2:w143.cell? ⟨gb569,2,none⟩=some (.int .i64 0):=(blk_cell BK569.out 2).trans rfl
                have hfz153_0:=blk_frozen BK569.out 0
                have hfz153_1:=blk_frozen BK569.out 1
                have hfz153_2:=blk_frozen BK569.out 2
                go_wp2
                go_meet
                case rel=>exact ⟨_,(false),(by first|rfl|(simp;done)|(simp [*];done)),H',⟨by have:=HJ3.out;have:=HK2.out;have:=HJ19.out;first|omega|exact Nat.le_refl _⟩,⟨by (with_reducible repeat (first|refine blk_drewN ?_ _|refine blk_drew ?_|refine blk_alloc ?_ _));refine blk_far ?_ NB567_569.out _;(with_reducible repeat (first|refine blk_drewN ?_ _|refine blk_drew ?_|refine blk_alloc ?_ _));refine blk_far ?_ NB567_569.out _;(with_reducible repeat (first|refine blk_drewN ?_ _|refine blk_drew ?_|refine blk_alloc ?_ _));refine blk_far ?_ NB567_569.out _;(with_reducible repeat (first|refine blk_drewN ?_ _|refine blk_drew ?_|refine blk_alloc ?_ _));exact BK567.out⟩,⟨by (with_reducible repeat (first|refine blk_drewN ?_ _|refine blk_drew ?_|refine blk_alloc ?_ _));refine blk_put (cs:=#[.int .i64 ((rd_T90 l1 x7_2).f0),.int .i64 ((rd_T90 l1 x7_2).f1),.int .i64 0]) ?_ 2 _ rfl;(with_reducible repeat (first|refine blk_drewN ?_ _|refine blk_drew ?_|refine blk_alloc ?_ _));refine blk_put (cs:=#[.int .i64 ((rd_T90 l1 x7_2).f0),.int .i64 0,.int .i64 0]) ?_ 1 _ rfl;(with_reducible repeat (first|refine blk_drewN ?_ _|refine blk_drew ?_|refine blk_alloc ?_ _));refine blk_put (cs:=#[.int .i64 0,.int .i64 0,.int .i64 0]) ?_ 0 _ rfl;(with_reducible repeat (first|refine blk_drewN ?_ _|refine blk_drew ?_|refine blk_alloc ?_ _));exact BK569.out⟩,⟨by repeat (first|(with_reducible first|exact HI564.out|apply IsS130.alloc|apply IsS130.drewN|apply IsS130.drew|apply IsS130.set_0|apply IsS130.set_1|apply IsS130.set_2|refine IsS130.far ?_ NB564_567.out _|refine IsS130.far ?_ NB564_569.out _)|exact HI564.out)⟩,⟨by repeat (first|(with_reducible first|exact HB.out|apply below_alloc|apply pw_below_drewN|apply below_drew1|refine below_set ?_ (IsS130.ge HI564.out)|refine below_set ?_ GE567.out|refine below_set ?_ GE569.out)|exact HB.out)⟩⟩
              case rest =>
               clear HC142
               try clear c1
               try clear p2
               try clear p5
               try clear q5
               try clear hx5
               try clear c6
               try clear p6
               try clear c7
               try clear c8
               try clear c10
               try clear c11
               try clear c12
               try clear c13
               try clear c14
               try clear c15
               try clear p56
               try clear q56
               try clear hx56
               try clear p64
               try clear c68
               try clear c69
               try clear c70
               try clear c83
               try clear c83b0
               try clear c83b1
               try clear c86
               try clear c86b0
               try clear c86b1
               try clear c88
               try clear c88b0
               try clear c88b1
               try clear c108
               try clear c109
               try clear c111
               try clear c115
               try clear c116
               try clear c117
               try clear c126
               try clear c127
               try clear c129
               try clear c133
               try clear c134
               try clear c135
               try clear c141
               try clear c141b0
               try clear c141b1
               try clear c144
               try clear c145
               try clear c147
               try clear c147b0
               try clear c148
               try clear c149
               try clear c151
               try clear c152
               try clear hcz110_0
               try clear hcz110_1
               try clear hcz110_2
               try clear hcz112_0
               try clear hcz112_1
               try clear hcz118_0
               try clear hcz118_1
               try clear hcz118_2
               try clear hcz119_0
               try clear hcz119_1
               try clear hcz128_0
               try clear hcz128_1
               try clear hcz128_2
               try clear hcz130_0
               try clear hcz130_1
               try clear hcz136_0
               try clear hcz136_1
               try clear hcz136_2
               try clear hcz137_0
               try clear hcz137_1
               try clear hcz146_0
               try clear hcz146_1
               try clear hcz146_2
               try clear hcz150_0
               try clear hcz150_1
               try clear hcz150_2
               try clear hcz153_0
               try clear hcz153_1
               try clear hcz153_2
               try clear hfz110_0
               try clear hfz110_1
               try clear hfz110_2
               try clear hfz112_0
               try clear hfz112_1
               try clear hfz118_0
               try clear hfz118_1
               try clear hfz118_2
               try clear hfz119_0
               try clear hfz119_1
               try clear hfz128_0
               try clear hfz128_1
               try clear hfz128_2
               try clear hfz130_0
               try clear hfz130_1
               try clear hfz136_0
               try clear hfz136_1
               try clear hfz136_2
               try clear hfz137_0
               try clear hfz137_1
               try clear hfz146_0
               try clear hfz146_1
               try clear hfz146_2
               try clear hfz150_0
               try clear hfz150_1
               try clear hfz150_2
               try clear hfz153_0
               try clear hfz153_1
               try clear hfz153_2
               try clear hx568_0
               try clear hx568_1
               try clear hx568_2
               try clear p568
               try clear q568
               obtain ⟨kq,x84_141,rfl,HA,HJ141,BK567,BK569,HI564,HB⟩:=hcut
               cases kq with
               | zero=>exact absurd HA.out (by simp [mosaiclaw04_PrngDraws.j3])
               | succ kj141 =>
                have H:=HA.out
                clear HA
                simp only [mosaiclaw04_PrngDraws.j3] at H
                have HC154:=Aside0.mk H
                clear H
                go_upto_if 84 with (fail)
                go_cut [] (fun wc=>∃ (kq:Nat) (x570001_153:Int),Aside0 (mosaiclaw04_PrngDraws.j4 kq l1 x7_2 x565000_2 x565001_2 x565002_2 x568000_2 x568001_2 ((rd_T90 l1 x7_2).f0) x570001_153 ((rd_T90 l1 x7_2).f2)=some true)∧Aside0 (kq≤kj141)∧Aside0 (wc.heap[gb567]?=some (.cells #[.string x568000_2,.int .i64 x568001_2] 83 (0,0)))∧Aside0 (wc.heap[gb569]?=some (.cells #[.int .i64 ((rd_T90 l1 x7_2).f0),.int .i64 x570001_153,.int .i64 ((rd_T90 l1 x7_2).f2)] 90 (0,0)))∧Aside0 (IsS130 w wc g564 x565000_2 x565001_2 x565002_2)∧Aside0 (Below w.heap.size w wc))
                case first =>
                 have H:=HC154.out
                 clear HC154
                 by_cases c155:x84_141=true
                 ·
                  subst c155
                  have H1:(mosaiclaw04_PrngDraws.j4 kj141 l1 x7_2 x565000_2 x565001_2 x565002_2 x568000_2 x568001_2 ((rd_T90 l1 x7_2).f0) 200 ((rd_T90 l1 x7_2).f2))=some true:=by rw [if_pos rfl] at H;exact H
                  clear H
                  have H:=H1
                  clear H1
                  have H':=Aside0.mk H
                  clear H
                  have hnb156:=NB569_567.out
                  have hnc156:=NB567_569.out
                  have hnb157:=NB569_564.out
                  have hnc157:=NB564_569.out
                  have hcz158_0:wc.cell? ⟨gb569,0,none⟩=some (.int .i64 ((rd_T90 l1 x7_2).f0)):=(blk_cell BK569.out 0).trans rfl
                  have hcz158_1:wc.cell? ⟨gb569,1,none⟩=some (.int .i64 ((rd_T90 l1 x7_2).f1)):=(blk_cell BK569.out 1).trans rfl
                  have hcz158_2:wc.cell? ⟨gb569,2,none⟩=some (.int .i64 ((rd_T90 l1 x7_2).f2)):=(blk_cell BK569.out 2).trans rfl
                  have hfz158_0:=blk_frozen BK569.out 0
                  have hfz158_1:=blk_frozen BK569.out 1
                  have hfz158_2:=blk_frozen BK569.out 2
                  go_wp2
                  go_meet
                  case rel=>exact ⟨_,(200),H',⟨by have:=HJ3.out;have:=HK2.out;have:=HJ19.out;have:=HJ141.out;first|omega|exact Nat.le_refl _⟩,⟨by (with_reducible repeat (first|refine blk_drewN ?_ _|refine blk_drew ?_|refine blk_alloc ?_ _));refine blk_far ?_ NB567_569.out _;(with_reducible repeat (first|refine blk_drewN ?_ _|refine blk_drew ?_|refine blk_alloc ?_ _));exact BK567.out⟩,⟨by (with_reducible repeat (first|refine blk_drewN ?_ _|refine blk_drew ?_|refine blk_alloc ?_ _));refine blk_put (cs:=#[.int .i64 ((rd_T90 l1 x7_2).f0),.int .i64 ((rd_T90 l1 x7_2).f1),.int .i64 ((rd_T90 l1 x7_2).f2)]) ?_ 1 _ rfl;(with_reducible repeat (first|refine blk_drewN ?_ _|refine blk_drew ?_|refine blk_alloc ?_ _));exact BK569.out⟩,⟨by repeat (first|(with_reducible first|exact HI564.out|apply IsS130.alloc|apply IsS130.drewN|apply IsS130.drew|apply IsS130.set_0|apply IsS130.set_1|apply IsS130.set_2|refine IsS130.far ?_ NB564_567.out _|refine IsS130.far ?_ NB564_569.out _)|exact HI564.out)⟩,⟨by repeat (first|(with_reducible first|exact HB.out|apply below_alloc|apply pw_below_drewN|apply below_drew1|refine below_set ?_ (IsS130.ge HI564.out)|refine below_set ?_ GE567.out|refine below_set ?_ GE569.out)|exact HB.out)⟩⟩
                 ·
                  replace c155:=Bool.eq_false_iff.mpr c155
                  subst c155
                  have H1:(mosaiclaw04_PrngDraws.j4 kj141 l1 x7_2 x565000_2 x565001_2 x565002_2 x568000_2 x568001_2 ((rd_T90 l1 x7_2).f0) ((rd_T90 l1 x7_2).f1) ((rd_T90 l1 x7_2).f2))=some true:=by rw [if_neg (show ¬ (false=true) by decide)] at H;exact H
                  clear H
                  have H:=H1
                  clear H1
                  have H':=Aside0.mk H
                  clear H
                  go_wp2
                  go_meet
                  case rel=>exact ⟨_,(((rd_T90 l1 x7_2).f1)),H',⟨by have:=HJ3.out;have:=HK2.out;have:=HJ19.out;have:=HJ141.out;first|omega|exact Nat.le_refl _⟩,⟨by (with_reducible repeat (first|refine blk_drewN ?_ _|refine blk_drew ?_|refine blk_alloc ?_ _));exact BK567.out⟩,⟨by (with_reducible repeat (first|refine blk_drewN ?_ _|refine blk_drew ?_|refine blk_alloc ?_ _));exact BK569.out⟩,⟨by repeat (first|(with_reducible first|exact HI564.out|apply IsS130.alloc|apply IsS130.drewN|apply IsS130.drew|apply IsS130.set_0|apply IsS130.set_1|apply IsS130.set_2|refine IsS130.far ?_ NB564_567.out _|refine IsS130.far ?_ NB564_569.out _)|exact HI564.out)⟩,⟨by repeat (first|(with_reducible first|exact HB.out|apply below_alloc|apply pw_below_drewN|apply below_drew1|refine below_set ?_ (IsS130.ge HI564.out)|refine below_set ?_ GE567.out|refine below_set ?_ GE569.out)|exact HB.out)⟩⟩
                case rest =>
                 clear HC154
                 try clear c1
                 try clear p2
                 try clear p5
                 try clear q5
                 try clear hx5
                 try clear c6
                 try clear p6
                 try clear c7
                 try clear c8
                 try clear c10
                 try clear c11
                 try clear c12
                 try clear c13
                 try clear c14
                 try clear c15
                 try clear p56
                 try clear q56
                 try clear hx56
                 try clear p64
                 try clear c68
                 try clear c69
                 try clear c70
                 try clear c83
                 try clear c83b0
                 try clear c83b1
                 try clear c86
                 try clear c86b0
                 try clear c86b1
                 try clear c88
                 try clear c88b0
                 try clear c88b1
                 try clear c108
                 try clear c109
                 try clear c111
                 try clear c115
                 try clear c116
                 try clear c117
                 try clear c126
                 try clear c127
                 try clear c129
                 try clear c133
                 try clear c134
                 try clear c135
                 try clear c141
                 try clear c141b0
                 try clear c141b1
                 try clear c144
                 try clear c145
                 try clear c147
                 try clear c147b0
                 try clear c148
                 try clear c149
                 try clear c151
                 try clear c152
                 try clear c155
                 try clear c156
                 try clear c157
                 try clear hcz110_0
                 try clear hcz110_1
                 try clear hcz110_2
                 try clear hcz112_0
                 try clear hcz112_1
                 try clear hcz118_0
                 try clear hcz118_1
                 try clear hcz118_2
                 try clear hcz119_0
                 try clear hcz119_1
                 try clear hcz128_0
                 try clear hcz128_1
                 try clear hcz128_2
                 try clear hcz130_0
                 try clear hcz130_1
                 try clear hcz136_0
                 try clear hcz136_1
                 try clear hcz136_2
                 try clear hcz137_0
                 try clear hcz137_1
                 try clear hcz146_0
                 try clear hcz146_1
                 try clear hcz146_2
                 try clear hcz150_0
                 try clear hcz150_1
                 try clear hcz150_2
                 try clear hcz153_0
                 try clear hcz153_1
                 try clear hcz153_2
                 try clear hcz158_0
                 try clear hcz158_1
                 try clear hcz158_2
                 try clear hfz110_0
                 try clear hfz110_1
                 try clear hfz110_2
                 try clear hfz112_0
                 try clear hfz112_1
                 try clear hfz118_0
                 try clear hfz118_1
                 try clear hfz118_2
                 try clear hfz119_0
                 try clear hfz119_1
                 try clear hfz128_0
                 try clear hfz128_1
                 try clear hfz128_2
                 try clear hfz130_0
                 try clear hfz130_1
                 try clear hfz136_0
                 try clear hfz136_1
                 try clear hfz136_2
                 try clear hfz137_0
                 try clear hfz137_1
                 try clear hfz146_0
                 try clear hfz146_1
                 try clear hfz146_2
                 try clear hfz150_0
                 try clear hfz150_1
                 try clear hfz150_2
                 try clear hfz153_0
                 try clear hfz153_1
                 try clear hfz153_2
                 try clear hfz158_0
                 try clear hfz158_1
                 try clear hfz158_2
                 try clear hx568_0
                 try clear hx568_1
                 try clear hx568_2
                 try clear p2
                 try clear p5
                 try clear p56
                 try clear p568
                 try clear p6
                 try clear p64
                 try clear q5
                 try clear q56
                 try clear q568
                 obtain ⟨kq,x570001_153,HA,HJ153,BK567,BK569,HI564,HB⟩:=hcut
                 cases kq with
                 | zero=>exact absurd HA.out (by simp [mosaiclaw04_PrngDraws.j4])
                 | succ kj153 =>
                  have H:=HA.out
                  clear HA
                  simp only [mosaiclaw04_PrngDraws.j4] at H
                  replace H:=Option.bind_eq_some_iff.mp H
                  obtain ⟨⟨t594,t595,t596⟩,A1590,H⟩:=H
                  replace H:((prng_Gen_Pick.f kj153 x565000_2 x565001_2 x565002_2 x570001_153 ((rd_T90 l1 x7_2).f2)).bind fun bt600=>((mosaicref04_Same.f kj153 bt600.1 t596).bind fun t606=>(if t606=true then ((prng_Gen_Used.f bt600.2.1 bt600.2.2.1 bt600.2.2.2).bind fun bt607=>(if bt607.1=t595 then (mosaiclaw04_PrngDraws.l0 kj153 l1 (wrap64 (x7_2+1)) bt607.2.1 bt607.2.2.1 bt607.2.2.2 t594 t595) else (some false))) else (some false))))=some true:=H
                  have A159:=Aside0.mk A1590
                  clear A1590
                  replace H:=Option.bind_eq_some_iff.mp H
                  obtain ⟨⟨t600,t603,t604,t605⟩,A1600,H⟩:=H
                  replace H:((mosaicref04_Same.f kj153 t600 t596).bind fun t606=>(if t606=true then ((prng_Gen_Used.f t603 t604 t605).bind fun bt607=>(if bt607.1=t595 then (mosaiclaw04_PrngDraws.l0 kj153 l1 (wrap64 (x7_2+1)) bt607.2.1 bt607.2.2.1 bt607.2.2.2 t594 t595) else (some false))) else (some false)))=some true:=H
                  have A160:=Aside0.mk A1600
                  clear A1600
                  replace H:=Option.bind_eq_some_iff.mp H
                  obtain ⟨t606,A1610,H⟩:=H
                  replace H:(if t606=true then ((prng_Gen_Used.f t603 t604 t605).bind fun bt607=>(if bt607.1=t595 then (mosaiclaw04_PrngDraws.l0 kj153 l1 (wrap64 (x7_2+1)) bt607.2.1 bt607.2.2.1 bt607.2.2.2 t594 t595) else (some false))) else (some false))=some true:=H
                  have A161:=Aside0.mk A1610
                  clear A1610
                  by_cases c162:t606=true
                  ·
                   subst c162
                   have H1:((prng_Gen_Used.f t603 t604 t605).bind fun bt607=>(if bt607.1=t595 then (mosaiclaw04_PrngDraws.l0 kj153 l1 (wrap64 (x7_2+1)) bt607.2.1 bt607.2.2.1 bt607.2.2.2 t594 t595) else (some false)))=some true:=by rw [if_pos rfl] at H;exact H
                   clear H
                   have H:=H1
                   clear H1
                   replace H:=Option.bind_eq_some_iff.mp H
                   obtain ⟨⟨t607,t608,t609,t610⟩,A1630,H⟩:=H
                   replace H:(if t607=t595 then (mosaiclaw04_PrngDraws.l0 kj153 l1 (wrap64 (x7_2+1)) t608 t609 t610 t594 t595) else (some false))=some true:=H
                   have A163:=Aside0.mk A1630
                   clear A1630
                   by_cases c164:t607=t595
                   ·
                    rw [if_pos c164] at H
                    have c164b0:(t607 == t595)=true:=beq_iff_eq.mpr c164
                    have c164b1:(t607 != t595)=false:=bne_eq_false_iff_eq.mpr c164
                    clear c164
                    have H':=Aside0.mk H
                    clear H
                    have hnb165:=NB567_569.out
                    have hnc165:=NB569_567.out
                    have hnb166:=NB567_564.out
                    have hnc166:=NB564_567.out
                    have hcz167_0:wc.cell? ⟨gb567,0,none⟩=some (.string x568000_2):=(blk_cell BK567.out 0).trans rfl
                    have hcz167_1:wc.cell? ⟨gb567,1,none⟩=some (.int .i64 x568001_2):=(blk_cell BK567.out 1).trans rfl
                    have hfz167_0:=blk_frozen BK567.out 0
                    have hfz167_1:=blk_frozen BK567.out 1
                    have hnb168:=NB569_564.out
                    have hnc168:=NB564_569.out
                    have hcz169_0:wc.cell? ⟨gb569,0,none⟩=some (.int .i64 ((rd_T90 l1 x7_2).f0)):=(blk_cell BK569.out 0).trans rfl
                    have hcz169_1:wc.cell? ⟨gb569,1,none⟩=some (.int .i64 x570001_153):=(blk_cell BK569.out 1).trans rfl
                    have hcz169_2:wc.cell? ⟨gb569,2,none⟩=some (.int .i64 ((rd_T90 l1 x7_2).f2)):=(blk_cell BK569.out 2).trans rfl
                    have hfz169_0:=blk_frozen BK569.out 0
                    have hfz169_1:=blk_frozen BK569.out 1
                    have hfz169_2:=blk_frozen BK569.out 2
                    try go_wp2_with (first|((with_reducible refine gate_callee (f:=71) rfl ?_);refine goesL_ (some 91) rfl rfl Try.func71 (by kernel_rfl) rfl #[.agg #[.string x568000_2,.int .i64 x568001_2],.int .i64 x570001_153,.int .i64 ((rd_T90 l1 x7_2).f2)] rfl (by (try simp only [List.map_toArray,List.map_cons,List.map_nil]);first|done|rfl|(simp only [List.length_drop,List.length_take];rfl)) ?_;(with_reducible refine (mosaicref04_Gen_Pick.calls kj153 x568000_2 x568001_2 x570001_153 ((rd_T90 l1 x7_2).f2) t594 t595 t596 _ A159.out).mono ?_);rintro e w170 ⟨v597,rfl,ho0,hb⟩;refine ⟨_,rfl,?_⟩;have n0_:=Aside0.mk (Kd.R_lower ho0 (below_size (by repeat (first|(with_reducible first|exact HB.out|apply below_alloc|apply pw_below_drewN|apply below_drew1|refine below_set ?_ (IsS130.ge HI564.out)|refine below_set ?_ GE567.out|refine below_set ?_ GE569.out)|exact HB.out))));have n1_:=Aside0.mk (blk_below (g:=gb567) (o:=.cells #[.string x568000_2,.int .i64 x568001_2] 83 (0,0)) (by (with_reducible repeat (first|refine blk_drewN ?_ _|refine blk_drew ?_|refine blk_alloc ?_ _));exact BK567.out) hb);have n2_:=Aside0.mk (blk_below (g:=gb569) (o:=.cells #[.int .i64 ((rd_T90 l1 x7_2).f0),.int .i64 x570001_153,.int .i64 ((rd_T90 l1 x7_2).f2)] 90 (0,0)) (by (with_reducible repeat (first|refine blk_drewN ?_ _|refine blk_drew ?_|refine blk_alloc ?_ _));exact BK569.out) hb);have n3_:=Aside0.mk (IsS130.below (by repeat (first|(with_reducible first|exact HI564.out|apply IsS130.alloc|apply IsS130.drewN|apply IsS130.drew|apply IsS130.set_0|apply IsS130.set_1|apply IsS130.set_2|refine IsS130.far ?_ NB564_567.out _|refine IsS130.far ?_ NB564_569.out _)|exact HI564.out)) hb);have n4_:=Aside0.mk (below_step (by repeat (first|(with_reducible first|exact HB.out|apply below_alloc|apply pw_below_drewN|apply below_drew1|refine below_set ?_ (IsS130.ge HI564.out)|refine below_set ?_ GE567.out|refine below_set ?_ GE569.out)|exact HB.out)) hb);clear BK567;clear BK569;clear HI564;clear HB;have HO598:=n0_;have BK567:=n1_;have BK569:=n2_;have HI564:=n3_;have HB:=n4_;clear n0_ n1_ n2_ n3_ n4_;(try clear hb);(try clear hb2);(try clear hk);(try clear hi);(try clear ho0))|((with_reducible refine gate_dst (N:=11) rfl ?_);(try (refine gate_guard (by rfl) ?_;dsimp only));refine box_event ?hg (N:=11) ?hd (cs:=#[.string (⟨#[]⟩:ByteArray),.int .i64 0,.slice none 0 0]) (t:=94) ?hr ?_;(case hd=>rfl);(case hg=>rfl);(case hr=>first|(go_simp;done)|(go_simp;rfl));intro gb599 hg w171 hbox hb;have n0_:=Aside0.mk (Kd.R_below (by (with_reducible repeat (first|apply Kd.R_alloc|apply Kd.R_drewN|apply Kd.R_drew));exact HO598.out) hb);have n1_:=Aside0.mk (blk_below (g:=gb567) (o:=.cells #[.string x568000_2,.int .i64 x568001_2] 83 (0,0)) (by (with_reducible repeat (first|refine blk_drewN ?_ _|refine blk_drew ?_|refine blk_alloc ?_ _));exact BK567.out) hb);have n2_:=Aside0.mk (blk_below (g:=gb569) (o:=.cells #[.int .i64 ((rd_T90 l1 x7_2).f0),.int .i64 x570001_153,.int .i64 ((rd_T90 l1 x7_2).f2)] 90 (0,0)) (by (with_reducible repeat (first|refine blk_drewN ?_ _|refine blk_drew ?_|refine blk_alloc ?_ _));exact BK569.out) hb);have n3_:=Aside0.mk (IsS130.below (by repeat (first|(with_reducible first|exact HI564.out|apply IsS130.alloc|apply IsS130.drewN|apply IsS130.drew|apply IsS130.set_0|apply IsS130.set_1|apply IsS130.set_2|refine IsS130.far ?_ NB564_567.out _|refine IsS130.far ?_ NB564_569.out _)|exact HI564.out)) hb);have n4_:=Aside0.mk (below_step (by repeat (first|(with_reducible first|exact HB.out|apply below_alloc|apply pw_below_drewN|apply below_drew1|refine below_set ?_ (IsS130.ge HI564.out)|refine below_set ?_ GE567.out|refine below_set ?_ GE569.out)|exact HB.out)) hb);have n5_:=Aside0.mk (hbox);have n6_:=Aside0.mk ((by rw [hg];exact (below_size (by repeat (first|(with_reducible first|exact HB.out|apply below_alloc|apply pw_below_drewN|apply below_drew1|refine below_set ?_ (IsS130.ge HI564.out)|refine below_set ?_ GE567.out|refine below_set ?_ GE569.out)|exact HB.out))):w.heap.size≤gb599));have n7_:=Aside0.mk ((by rw [hg];exact (below_size (by repeat (first|(with_reducible first|exact HB.out|apply below_alloc|apply pw_below_drewN|apply below_drew1|refine below_set ?_ (IsS130.ge HI564.out)|refine below_set ?_ GE567.out|refine below_set ?_ GE569.out)|exact HB.out))):w.heap.size≤gb599));have n8_:=Aside0.mk ((by rw [hg];exact Nat.ne_of_lt (blk_lt (g:=gb567) (o:=.cells #[.string x568000_2,.int .i64 x568001_2] 83 (0,0)) (by (with_reducible repeat (first|refine blk_drewN ?_ _|refine blk_drew ?_|refine blk_alloc ?_ _));exact BK567.out)):gb567≠gb599));have n9_:=Aside0.mk ((by rw [hg];exact Nat.ne_of_gt (blk_lt (g:=gb567) (o:=.cells #[.string x568000_2,.int .i64 x568001_2] 83 (0,0)) (by (with_reducible repeat (first|refine blk_drewN ?_ _|refine blk_drew ?_|refine blk_alloc ?_ _));exact BK567.out)):gb599≠gb567));have n10_:=Aside0.mk ((by rw [hg];exact Nat.ne_of_lt (blk_lt (g:=gb569) (o:=.cells #[.int .i64 ((rd_T90 l1 x7_2).f0),.int .i64 x570001_153,.int .i64 ((rd_T90 l1 x7_2).f2)] 90 (0,0)) (by (with_reducible repeat (first|refine blk_drewN ?_ _|refine blk_drew ?_|refine blk_alloc ?_ _));exact BK569.out)):gb569≠gb599));have n11_:=Aside0.mk ((by rw [hg];exact Nat.ne_of_gt (blk_lt (g:=gb569) (o:=.cells #[.int .i64 ((rd_T90 l1 x7_2).f0),.int .i64 x570001_153,.int .i64 ((rd_T90 l1 x7_2).f2)] 90 (0,0)) (by (with_reducible repeat (first|refine blk_drewN ?_ _|refine blk_drew ?_|refine blk_alloc ?_ _));exact BK569.out)):gb599≠gb569));have n12_:=Aside0.mk ((by rw [hg];exact Nat.ne_of_lt (IsS130.lt (show IsS130 w _ g564 x565000_2 x565001_2 x565002_2 from by repeat (first|(with_reducible first|exact HI564.out|apply IsS130.alloc|apply IsS130.drewN|apply IsS130.drew|apply IsS130.set_0|apply IsS130.set_1|apply IsS130.set_2|refine IsS130.far ?_ NB564_567.out _|refine IsS130.far ?_ NB564_569.out _)|exact HI564.out))):g564≠gb599));have n13_:=Aside0.mk ((by rw [hg];exact Nat.ne_of_gt (IsS130.lt (show IsS130 w _ g564 x565000_2 x565001_2 x565002_2 from by repeat (first|(with_reducible first|exact HI564.out|apply IsS130.alloc|apply IsS130.drewN|apply IsS130.drew|apply IsS130.set_0|apply IsS130.set_1|apply IsS130.set_2|refine IsS130.far ?_ NB564_567.out _|refine IsS130.far ?_ NB564_569.out _)|exact HI564.out))):gb599≠g564));clear HO598;clear BK567;clear BK569;clear HI564;clear HB;have HO598:=n0_;have BK567:=n1_;have BK569:=n2_;have HI564:=n3_;have HB:=n4_;have BK599:=n5_;have GW599:=n6_;have GE599:=n7_;have NB567_599:=n8_;have NB599_567:=n9_;have NB569_599:=n10_;have NB599_569:=n11_;have NB564_599:=n12_;have NB599_564:=n13_;clear n0_ n1_ n2_ n3_ n4_ n5_ n6_ n7_ n8_ n9_ n10_ n11_ n12_ n13_;clear hb hbox hg;have hnb172:=NB599_567.out;have hnc172:=NB567_599.out;have hnb173:=NB599_569.out;have hnc173:=NB569_599.out;have hnb174:=NB599_564.out;have hnc174:=NB564_599.out;have hcz175_0:w171.cell? ⟨gb599,0,none⟩=some (.string (⟨#[]⟩:ByteArray)):=(blk_cell BK599.out 0).trans rfl;have hcz175_1:w171.cell? ⟨gb599,1,none⟩=some (.int .i64 0):=(blk_cell BK599.out 1).trans rfl;have hcz175_2:w171.cell? ⟨gb599,2,none⟩=some (.slice none 0 0):=(blk_cell BK599.out 2).trans rfl;have hfz175_0:=blk_frozen BK599.out 0;have hfz175_1:=blk_frozen BK599.out 1;have hfz175_2:=blk_frozen BK599.out 2;obtain ⟨Ao176,co176,eo176⟩:=Kd.R_slice HO598.out;subst eo176;have hcz177_0:w171.cell? ⟨gb567,0,none⟩=some (.string x568000_2):=(blk_cell BK567.out 0).trans rfl;have hcz177_1:w171.cell? ⟨gb567,1,none⟩=some (.int .i64 x568001_2):=(blk_cell BK567.out 1).trans rfl;have hfz177_0:=blk_frozen BK567.out 0;have hfz177_1:=blk_frozen BK567.out 1))
                    have n0_:Aside0 (Kd.R (Kd.int .i64) 3 (((((w171.setCell ⟨gb599,0,none⟩ (.string t594)).setCell ⟨gb599,1,none⟩ (.int .i64 t595)).setCell ⟨gb599,2,none⟩ (.slice Ao176 t596.length co176)).setCell ⟨gb567,0,none⟩ (.string t594)).setCell ⟨gb567,1,none⟩ (.int .i64 t595)) w.heap.size (fun _=>True) (.slice Ao176 t596.length co176) t596):=⟨by (with_reducible repeat (first|apply Kd.R_alloc|apply Kd.R_drewN|apply Kd.R_drew));exact Kd.R_mono (Kd.R_far (p:=⟨gb567,1,none⟩) (Kd.R_far (p:=⟨gb567,0,none⟩) (Kd.R_far (p:=⟨gb599,2,none⟩) (Kd.R_far (p:=⟨gb599,1,none⟩) (Kd.R_far (p:=⟨gb599,0,none⟩) (Kd.R_types (Kd.R_types HO598.out BK599.out (by decide)) BK567.out (by decide)) (fun _ hk=>hk.1.2) (.string t594)) (fun _ hk=>hk.1.2) (.int .i64 t595)) (fun _ hk=>hk.1.2) (.slice Ao176 t596.length co176)) (fun _ hk=>hk.2) (.string t594)) (fun _ hk=>hk.2) (.int .i64 t595)) (fun _ hk=>trivial)⟩
                    have n1_:Aside0 ((((((w171.setCell ⟨gb599,0,none⟩ (.string t594)).setCell ⟨gb599,1,none⟩ (.int .i64 t595)).setCell ⟨gb599,2,none⟩ (.slice Ao176 t596.length co176)).setCell ⟨gb567,0,none⟩ (.string t594)).setCell ⟨gb567,1,none⟩ (.int .i64 t595)).heap[gb567]?=some (.cells #[.string t594,.int .i64 t595] 83 (0,0))):=⟨by (with_reducible repeat (first|refine blk_drewN ?_ _|refine blk_drew ?_|refine blk_alloc ?_ _));refine blk_put (cs:=#[.string t594,.int .i64 x568001_2]) ?_ 1 _ rfl;(with_reducible repeat (first|refine blk_drewN ?_ _|refine blk_drew ?_|refine blk_alloc ?_ _));refine blk_put (cs:=#[.string x568000_2,.int .i64 x568001_2]) ?_ 0 _ rfl;(with_reducible repeat (first|refine blk_drewN ?_ _|refine blk_drew ?_|refine blk_alloc ?_ _));refine blk_far ?_ NB567_599.out _;(with_reducible repeat (first|refine blk_drewN ?_ _|refine blk_drew ?_|refine blk_alloc ?_ _));refine blk_far ?_ NB567_599.out _;(with_reducible repeat (first|refine blk_drewN ?_ _|refine blk_drew ?_|refine blk_alloc ?_ _));refine blk_far ?_ NB567_599.out _;(with_reducible repeat (first|refine blk_drewN ?_ _|refine blk_drew ?_|refine blk_alloc ?_ _));exact BK567.out⟩
                    have n2_:Aside0 ((((((w171.setCell ⟨gb599,0,none⟩ (.string t594)).setCell ⟨gb599,1,none⟩ (.int .i64 t595)).setCell ⟨gb599,2,none⟩ (.slice Ao176 t596.length co176)).setCell ⟨gb567,0,none⟩ (.string t594)).setCell ⟨gb567,1,none⟩ (.int .i64 t595)).heap[gb569]?=some (.cells #[.int .i64 ((rd_T90 l1 x7_2).f0),.int .i64 x570001_153,.int .i64 ((rd_T90 l1 x7_2).f2)] 90 (0,0))):=⟨by (with_reducible repeat (first|refine blk_drewN ?_ _|refine blk_drew ?_|refine blk_alloc ?_ _));refine blk_far ?_ NB569_567.out _;(with_reducible repeat (first|refine blk_drewN ?_ _|refine blk_drew ?_|refine blk_alloc ?_ _));refine blk_far ?_ NB569_567.out _;(with_reducible repeat (first|refine blk_drewN ?_ _|refine blk_drew ?_|refine blk_alloc ?_ _));refine blk_far ?_ NB569_599.out _;(with_reducible repeat (first|refine blk_drewN ?_ _|refine blk_drew ?_|refine blk_alloc ?_ _));refine blk_far ?_ NB569_599.out _;(with_reducible repeat (first|refine blk_drewN ?_ _|refine blk_drew ?_|refine blk_alloc ?_ _));refine blk_far ?_ NB569_599.out _;(with_reducible repeat (first|refine blk_drewN ?_ _|refine blk_drew ?_|refine blk_alloc ?_ _));exact BK569.out⟩
                    have n3_:Aside0 ((((((w171.setCell ⟨gb599,0,none⟩ (.string t594)).setCell ⟨gb599,1,none⟩ (.int .i64 t595)).setCell ⟨gb599,2,none⟩ (.slice Ao176 t596.length co176)).setCell ⟨gb567,0,none⟩ (.string t594)).setCell ⟨gb567,1,none⟩ (.int .i64 t595)).heap[gb599]?=some (.cells #[.string t594,.int .i64 t595,.slice Ao176 t596.length co176] 94 (0,0))):=⟨by (with_reducible repeat (first|refine blk_drewN ?_ _|refine blk_drew ?_|refine blk_alloc ?_ _));refine blk_far ?_ NB599_567.out _;(with_reducible repeat (first|refine blk_drewN ?_ _|refine blk_drew ?_|refine blk_alloc ?_ _));refine blk_far ?_ NB599_567.out _;(with_reducible repeat (first|refine blk_drewN ?_ _|refine blk_drew ?_|refine blk_alloc ?_ _));refine blk_put (cs:=#[.string t594,.int .i64 t595,.slice none 0 0]) ?_ 2 _ rfl;(with_reducible repeat (first|refine blk_drewN ?_ _|refine blk_drew ?_|refine blk_alloc ?_ _));refine blk_put (cs:=#[.string t594,.int .i64 0,.slice none 0 0]) ?_ 1 _ rfl;(with_reducible repeat (first|refine blk_drewN ?_ _|refine blk_drew ?_|refine blk_alloc ?_ _));refine blk_put (cs:=#[.string (⟨#[]⟩:ByteArray),.int .i64 0,.slice none 0 0]) ?_ 0 _ rfl;(with_reducible repeat (first|refine blk_drewN ?_ _|refine blk_drew ?_|refine blk_alloc ?_ _));exact BK599.out⟩
                    have n4_:Aside0 (IsS130 w (((((w171.setCell ⟨gb599,0,none⟩ (.string t594)).setCell ⟨gb599,1,none⟩ (.int .i64 t595)).setCell ⟨gb599,2,none⟩ (.slice Ao176 t596.length co176)).setCell ⟨gb567,0,none⟩ (.string t594)).setCell ⟨gb567,1,none⟩ (.int .i64 t595)) g564 x565000_2 x565001_2 x565002_2):=⟨by repeat (first|(with_reducible first|exact HI564.out|apply IsS130.alloc|apply IsS130.drewN|apply IsS130.drew|apply IsS130.set_0|apply IsS130.set_1|apply IsS130.set_2|refine IsS130.far ?_ NB564_567.out _|refine IsS130.far ?_ NB564_569.out _|refine IsS130.far ?_ NB564_599.out _)|exact HI564.out)⟩
                    have n5_:Aside0 (Below w.heap.size w (((((w171.setCell ⟨gb599,0,none⟩ (.string t594)).setCell ⟨gb599,1,none⟩ (.int .i64 t595)).setCell ⟨gb599,2,none⟩ (.slice Ao176 t596.length co176)).setCell ⟨gb567,0,none⟩ (.string t594)).setCell ⟨gb567,1,none⟩ (.int .i64 t595))):=⟨by repeat (first|(with_reducible first|exact HB.out|apply below_alloc|apply pw_below_drewN|apply below_drew1|refine below_set ?_ (IsS130.ge HI564.out)|refine below_set ?_ GE567.out|refine below_set ?_ GE569.out|refine below_set ?_ GE599.out)|exact HB.out)⟩
                    (try clear HO598)
                    (try clear BK567)
                    (try clear BK569)
                    (try clear BK599)
                    (try clear HI564)
                    (try clear HB)
                    generalize (((((w171.setCell ⟨gb599,0,none⟩ (.string t594)).setCell ⟨gb599,1,none⟩ (.int .i64 t595)).setCell ⟨gb599,2,none⟩ (.slice Ao176 t596.length co176)).setCell ⟨gb567,0,none⟩ (.string t594)).setCell ⟨gb567,1,none⟩ (.int .i64 t595))=w178 at n0_ n1_ n2_ n3_ n4_ n5_ ⊢
                    have HO598:=n0_
                    have BK567:=n1_
                    have BK569:=n2_
                    have BK599:=n3_
                    have HI564:=n4_
                    have HB:=n5_
                    clear n0_ n1_ n2_ n3_ n4_ n5_
                    have n0_:=Aside0.mk (Kd.R_drew HO598.out)
                    have n1_:=Aside0.mk (blk_drew BK567.out)
                    have n2_:=Aside0.mk (blk_drew BK569.out)
                    have n3_:=Aside0.mk (blk_drew BK599.out)
                    have n4_:=Aside0.mk (IsS130.drew HI564.out)
                    have n5_:=Aside0.mk (below_drew1 HB.out)
                    clear HO598
                    clear BK567
                    clear BK569
                    clear BK599
                    clear HI564
                    clear HB
                    have HO598:=n0_
                    have BK567:=n1_
                    have BK569:=n2_
                    have BK599:=n3_
                    have HI564:=n4_
                    have HB:=n5_
                    clear n0_ n1_ n2_ n3_ n4_ n5_
                    refine start_ (n:=10) (S:=fun w'=>w'.cell? ⟨gb569,0,none⟩=some (.int .i64 ((rd_T90 l1 x7_2).f0))∧w'.cell? ⟨gb569,1,none⟩=some (.int .i64 x570001_153)∧w'.cell? ⟨gb569,2,none⟩=some (.int .i64 ((rd_T90 l1 x7_2).f2))∧w'.cell? ⟨gb599,0,none⟩=some (.string t594)∧w'.cell? ⟨gb599,1,none⟩=some (.int .i64 t595)∧w'.cell? ⟨gb599,2,none⟩=some (.slice Ao176 t596.length co176)) (ds:=[]) #[false,false,false,false,false,false,false,false,false,false] (by kernel_rfl) rfl rfl ⟨(blk_cell BK569.out 0).trans rfl,(blk_cell BK569.out 1).trans rfl,(blk_cell BK569.out 2).trans rfl,(blk_cell BK599.out 0).trans rfl,(blk_cell BK599.out 1).trans rfl,(blk_cell BK599.out 2).trans rfl⟩ (fun hHeld=>?_);refine with_tabW mosaiclaw04_PrngDraws.tab25 mosaiclaw04_PrngDraws.bits25 (fun HT_ HW_=>?_)
                    generalize w178.drew=w179 at HO598 BK567 BK569 BK599 HI564 HB hHeld ⊢
                    refine pure_ (i:=0) (N:=some 94) (v:=?_) (a':=?_) #[true,false,false,false,false,false,false,false,false,false] rfl rfl (any_of HT_.out (by kernel_rfl)) (fun _ _ _ h=>h) (Or.inl ⟨by rfl,?_⟩) ?_ ?_
                    rotate_left
                    ·
                     intro w'
                     go_simp
                     with_reducible rfl
                    rotate_left
                    ·
                     simp only [Act.put,List.setIfInBounds_toArray,List.set_cons_zero,List.set_cons_succ,i64_w,i32_w]
                     rfl
                    refine pure_ (i:=1) (N:=some 95) (v:=?_) (a':=?_) #[true,true,false,false,false,false,false,false,false,false] rfl rfl (any_of HT_.out (by kernel_rfl)) (fun _ _ _ h=>h) (Or.inl ⟨by rfl,?_⟩) ?_ ?_
                    rotate_left
                    ·
                     intro w'
                     go_simp
                     with_reducible rfl
                    rotate_left
                    ·
                     simp only [Act.put,List.setIfInBounds_toArray,List.set_cons_zero,List.set_cons_succ,i64_w,i32_w]
                     rfl
                    refine pure_ (i:=3) (N:=some 97) (v:=?_) (a':=?_) #[true,true,false,true,false,false,false,false,false,false] rfl rfl (any_of HT_.out (by kernel_rfl)) (fun _ _ _ h=>h) (Or.inl ⟨by rfl,?_⟩) ?_ ?_
                    rotate_left
                    ·
                     intro w'
                     go_simp
                     with_reducible rfl
                    rotate_left
                    ·
                     simp only [Act.put,List.setIfInBounds_toArray,List.set_cons_zero,List.set_cons_succ,i64_w,i32_w]
                     rfl
                    refine pure_ (i:=6) (N:=some 100) (v:=?_) (a':=?_) #[true,true,false,true,false,false,true,false,false,false] rfl rfl (any_of HT_.out (by kernel_rfl)) (fun _ _ _ h=>h) (Or.inl ⟨by rfl,?_⟩) ?_ ?_
                    rotate_left
                    ·
                     intro w'
                     go_simp
                     with_reducible rfl
                    rotate_left
                    ·
                     simp only [Act.put,List.setIfInBounds_toArray,List.set_cons_zero,List.set_cons_succ,i64_w,i32_w]
                     rfl
                    refine take_ (i:=2) (N:=some 96) (v:=?_) (a':=?_) #[true,true,true,true,false,false,true,false,false,false] rfl rfl (take_ofW HT_.out HW_.out (by kernel_rfl)) (fun _ _ _ h=>h) (Or.inl ⟨by rfl,?_⟩) hHeld ?_ ?_
                    rotate_left
                    ·
                     rintro w' ⟨s0,s1,s2,s3,s4,s5⟩
                     go_simp
                     with_reducible rfl
                    rotate_left
                    ·
                     simp only [Act.put,List.setIfInBounds_toArray,List.set_cons_zero,List.set_cons_succ,i64_w,i32_w]
                     rfl
                    refine take_ (i:=4) (N:=some 98) (v:=?_) (a':=?_) #[true,true,true,true,true,false,true,false,false,false] rfl rfl (take_ofW HT_.out HW_.out (by kernel_rfl)) (fun _ _ _ h=>h) (Or.inl ⟨by rfl,?_⟩) hHeld ?_ ?_
                    rotate_left
                    ·
                     rintro w' ⟨s0,s1,s2,s3,s4,s5⟩
                     go_simp
                     with_reducible rfl
                    rotate_left
                    ·
                     simp only [Act.put,List.setIfInBounds_toArray,List.set_cons_zero,List.set_cons_succ,i64_w,i32_w]
                     rfl
                    refine take_ (i:=7) (N:=some 101) (v:=?_) (a':=?_) #[true,true,true,true,true,false,true,true,false,false] rfl rfl (take_ofW HT_.out HW_.out (by kernel_rfl)) (fun _ _ _ h=>h) (Or.inl ⟨by rfl,?_⟩) hHeld ?_ ?_
                    rotate_left
                    ·
                     rintro w' ⟨s0,s1,s2,s3,s4,s5⟩
                     go_simp
                     with_reducible rfl
                    rotate_left
                    ·
                     simp only [Act.put,List.setIfInBounds_toArray,List.set_cons_zero,List.set_cons_succ,i64_w,i32_w]
                     rfl
                    refine one_ (i:=5) (N:=some 99) #[true,true,true,true,true,true,true,true,false,false] rfl rfl (one_of HT_.out (by kernel_rfl)) (by decide) (fun K hK=>?_)
                    refine goes_ Try.func63 (by kernel_rfl) rfl #[.pointer (some ⟨g564,0,none⟩),.int .i64 x570001_153,.int .i64 ((rd_T90 l1 x7_2).f2)] (by rfl) rfl rfl (by (try simp only [List.map_toArray,List.map_cons,List.map_nil]);first|done|rfl|(simp only [List.length_drop,List.length_take];rfl)) ?_
                    with_reducible refine (prng_Gen_Pick.calls kj153 g564 x565000_2 x565001_2 x565002_2 x570001_153 ((rd_T90 l1 x7_2).f2) t600 t603 t604 t605 w _ ?side1 ?side2 A160.out).mono ?_
                    (case side1=>repeat (first|(with_reducible first|exact HI564.out|apply IsS130.alloc|apply IsS130.drewN|apply IsS130.drew|apply IsS130.set_0|apply IsS130.set_1|apply IsS130.set_2|refine IsS130.far ?_ NB564_567.out _|refine IsS130.far ?_ NB564_569.out _|refine IsS130.far ?_ NB564_599.out _)|exact HI564.out))
                    (case side2=>repeat (first|(with_reducible first|exact HB.out|apply below_alloc|apply pw_below_drewN|apply below_drew1|refine below_set ?_ (IsS130.ge HI564.out)|refine below_set ?_ GE567.out|refine below_set ?_ GE569.out|refine below_set ?_ GE599.out)|exact HB.out))
                    rintro e w180 ⟨v601,rfl,ho0,hi,hb,hk⟩
                    refine ⟨_,rfl,?_⟩
                    have n0_:=Aside0.mk (KeepBut.blk hk (g':=gb567) (o:=.cells #[.string t594,.int .i64 t595] 83 (0,0)) (by (with_reducible repeat (first|refine blk_drewN ?_ _|refine blk_drew ?_|refine blk_alloc ?_ _));exact BK567.out) NB567_564.out (by simp))
                    have n1_:=Aside0.mk (KeepBut.blk hk (g':=gb569) (o:=.cells #[.int .i64 ((rd_T90 l1 x7_2).f0),.int .i64 x570001_153,.int .i64 ((rd_T90 l1 x7_2).f2)] 90 (0,0)) (by (with_reducible repeat (first|refine blk_drewN ?_ _|refine blk_drew ?_|refine blk_alloc ?_ _));exact BK569.out) NB569_564.out (by simp))
                    have n2_:=Aside0.mk (Kd.R_mono (Kd.R_keep (IsS130.apart (show IsS130 w _ g564 x565000_2 x565001_2 x565002_2 from by repeat (first|(with_reducible first|exact HI564.out|apply IsS130.alloc|apply IsS130.drewN|apply IsS130.drew|apply IsS130.set_0|apply IsS130.set_1|apply IsS130.set_2|refine IsS130.far ?_ NB564_567.out _|refine IsS130.far ?_ NB564_569.out _|refine IsS130.far ?_ NB564_599.out _)|exact HI564.out)) (by (with_reducible repeat (first|apply Kd.R_alloc|apply Kd.R_drewN|apply Kd.R_drew));exact HO598.out) (by decide)) hk (fun _ h=>h.2)) (fun _ h=>h.1))
                    have n3_:=Aside0.mk (KeepBut.blk hk (g':=gb599) (o:=.cells #[.string t594,.int .i64 t595,.slice Ao176 t596.length co176] 94 (0,0)) (by (with_reducible repeat (first|refine blk_drewN ?_ _|refine blk_drew ?_|refine blk_alloc ?_ _));exact BK599.out) NB599_564.out (by simp))
                    have n4_:=Aside0.mk (Kd.V_lower (Kd.V_mono (ok':=fun k_=>some k_≠(.slice Ao176 t596.length co176:Value).ownBlock∧k_≠gb567∧k_≠gb569∧k_≠gb599∧k_≠g564) ho0 (fun k_ hk_=>⟨(Kd.fresh' (Kd.R_lt (by (with_reducible repeat (first|apply Kd.R_alloc|apply Kd.R_drewN|apply Kd.R_drew));exact HO598.out)) k_ hk_),(Kd.freshB (g:=gb567) (o:=.cells #[.string t594,.int .i64 t595] 83 (0,0)) (by (with_reducible repeat (first|refine blk_drewN ?_ _|refine blk_drew ?_|refine blk_alloc ?_ _));exact BK567.out) k_ hk_),(Kd.freshB (g:=gb569) (o:=.cells #[.int .i64 ((rd_T90 l1 x7_2).f0),.int .i64 x570001_153,.int .i64 ((rd_T90 l1 x7_2).f2)] 90 (0,0)) (by (with_reducible repeat (first|refine blk_drewN ?_ _|refine blk_drew ?_|refine blk_alloc ?_ _));exact BK569.out) k_ hk_),(Kd.freshB (g:=gb599) (o:=.cells #[.string t594,.int .i64 t595,.slice Ao176 t596.length co176] 94 (0,0)) (by (with_reducible repeat (first|refine blk_drewN ?_ _|refine blk_drew ?_|refine blk_alloc ?_ _));exact BK599.out) k_ hk_),(IsS130.fresh (by repeat (first|(with_reducible first|exact HI564.out|apply IsS130.alloc|apply IsS130.drewN|apply IsS130.drew|apply IsS130.set_0|apply IsS130.set_1|apply IsS130.set_2|refine IsS130.far ?_ NB564_567.out _|refine IsS130.far ?_ NB564_569.out _|refine IsS130.far ?_ NB564_599.out _)|exact HI564.out)) k_ hk_)⟩)) (below_size (by repeat (first|(with_reducible first|exact HB.out|apply below_alloc|apply pw_below_drewN|apply below_drew1|refine below_set ?_ (IsS130.ge HI564.out)|refine below_set ?_ GE567.out|refine below_set ?_ GE569.out|refine below_set ?_ GE599.out)|exact HB.out))))
                    have n5_:=Aside0.mk (hb)
                    have n6_:=Aside0.mk (hi)
                    clear BK567
                    clear BK569
                    clear HO598
                    clear BK599
                    clear HB
                    clear HI564
                    have BK567:=n0_
                    have BK569:=n1_
                    have HO598:=n2_
                    have BK599:=n3_
                    have HO602:=n4_
                    have HB:=n5_
                    have HI564:=n6_
                    clear n0_ n1_ n2_ n3_ n4_ n5_ n6_
                    (try clear hb)
                    (try clear hb2)
                    (try clear hk)
                    (try clear hi)
                    (try clear ho0)
                    obtain ⟨Ao181,co181,eo181⟩:=Kd.V_slice HO602.out
                    (first|subst eo181|(injection eo181 with f1_ f2_ f3_;have f4_:=f1_.symm;have f5_:=f3_.symm;clear f1_ f2_ f3_;subst f4_;subst f5_))
                    refine hK.out _ _ ⟨(blk_cell BK569.out 0).trans rfl,(blk_cell BK569.out 1).trans rfl,(blk_cell BK569.out 2).trans rfl,(blk_cell BK599.out 0).trans rfl,(blk_cell BK599.out 1).trans rfl,(blk_cell BK599.out 2).trans rfl⟩ (fun hHeld=>?_)
                    clear hK K
                    refine norm_ (a':=?_) ?_ ?_
                    rotate_left
                    ·
                     show Act.put _ (some 99) _=_
                     simp only [Act.put,List.setIfInBounds_toArray,List.set_cons_zero,List.set_cons_succ,i64_w,i32_w]
                     rfl
                    refine one_ (i:=8) (N:=some 102) #[true,true,true,true,true,true,true,true,true,false] rfl rfl (one_of HT_.out (by kernel_rfl)) (by decide) (fun K hK=>?_)
                    refine goes_ Try.func72 (by kernel_rfl) rfl #[.slice Ao181 t600.length co181,.slice Ao176 t596.length co176] (by rfl) rfl rfl (by (try simp only [List.map_toArray,List.map_cons,List.map_nil]);first|done|rfl|(simp only [List.length_drop,List.length_take];rfl)) ?_
                    with_reducible refine (mosaicref04_Same.calls kj153 _ _ t600 _ _ t596 true _ ?side1 ?side2 ?side3 ?side4 A161.out).mono ?_
                    (case side1=>repeat (first|exact (Kd.V_reads' HO602.out).2.2|(with_reducible refine Kd.C_alloc ?_ _)|(with_reducible refine Kd.C_drewN ?_ _)|(with_reducible refine Kd.C_drew ?_)))
                    (case side2=>exact (Kd.V_reads' HO602.out).2.1)
                    (case side3=>repeat (first|exact (Kd.R_reads' HO598.out).2.2|(with_reducible refine Kd.C_alloc ?_ _)|(with_reducible refine Kd.C_drewN ?_ _)|(with_reducible refine Kd.C_drew ?_)))
                    (case side4=>exact (Kd.R_reads' HO598.out).2.1)
                    rintro e w' ⟨rfl,⟨nd,rfl⟩⟩
                    refine ⟨_,rfl,?_⟩
                    refine hK.out _ _ ⟨(blk_cell BK569.out 0).trans rfl,(blk_cell BK569.out 1).trans rfl,(blk_cell BK569.out 2).trans rfl,(blk_cell BK599.out 0).trans rfl,(blk_cell BK599.out 1).trans rfl,(blk_cell BK599.out 2).trans rfl⟩ (fun hHeld=>?_)
                    clear hK K
                    refine norm_ (a':=?_) ?_ ?_
                    rotate_left
                    ·
                     show Act.put _ (some 102) _=_
                     simp only [Act.put,List.setIfInBounds_toArray,List.set_cons_zero,List.set_cons_succ,i64_w,i32_w]
                     rfl
                    refine pure_ (i:=9) (N:=some 103) (v:=?_) (a':=?_) #[true,true,true,true,true,true,true,true,true,true] rfl rfl (any_of HT_.out (by kernel_rfl)) (fun _ _ _ h=>h) (Or.inl ⟨by rfl,?_⟩) ?_ ?_
                    rotate_left
                    ·
                     intro w'
                     go_simp
                     with_reducible rfl
                    rotate_left
                    ·
                     simp only [Act.put,List.setIfInBounds_toArray,List.set_cons_zero,List.set_cons_succ,i64_w,i32_w]
                     rfl
                    refine done_ (done_of HT_.out (by kernel_rfl)) ?_
                    try go_wp2
                    (try (rw [drewN_self w180];generalize hq_:World.drewN w180 _=w180;have n0_:Aside0 (Kd.R (Kd.int .i64) 3 w180 w.heap.size (fun _=>True) (.slice Ao176 t596.length co176) t596):=⟨by rw [← hq_];exact (by (with_reducible repeat (first|apply Kd.R_alloc|apply Kd.R_drewN|apply Kd.R_drew));exact HO598.out)⟩;have n1_:Aside0 (Kd.V (Kd.int .i64) 3 w180 w.heap.size (fun k_=>some k_≠(.slice Ao176 t596.length co176:Value).ownBlock∧k_≠g564∧k_≠gb567∧k_≠gb569∧k_≠gb599) (.slice Ao181 t600.length co181) t600):=⟨by rw [← hq_];exact (by (with_reducible repeat (first|apply Kd.V_alloc|apply Kd.V_drewN|apply Kd.V_drew));exact Kd.V_mono HO602.out (fun _ hk=>⟨hk.1,⟨hk.2.2.2.2,⟨hk.2.1,⟨hk.2.2.1,hk.2.2.2.1⟩⟩⟩⟩))⟩;have n2_:Aside0 (w180.heap[gb567]?=some (.cells #[.string t594,.int .i64 t595] 83 (0,0))):=⟨by rw [← hq_];exact (by (with_reducible repeat (first|refine blk_drewN ?_ _|refine blk_drew ?_|refine blk_alloc ?_ _));exact BK567.out)⟩;have n3_:Aside0 (w180.heap[gb569]?=some (.cells #[.int .i64 ((rd_T90 l1 x7_2).f0),.int .i64 x570001_153,.int .i64 ((rd_T90 l1 x7_2).f2)] 90 (0,0))):=⟨by rw [← hq_];exact (by (with_reducible repeat (first|refine blk_drewN ?_ _|refine blk_drew ?_|refine blk_alloc ?_ _));exact BK569.out)⟩;have n4_:Aside0 (w180.heap[gb599]?=some (.cells #[.string t594,.int .i64 t595,.slice Ao176 t596.length co176] 94 (0,0))):=⟨by rw [← hq_];exact (by (with_reducible repeat (first|refine blk_drewN ?_ _|refine blk_drew ?_|refine blk_alloc ?_ _));exact BK599.out)⟩;have n5_:Aside0 (IsS130 w w180 g564 t603 t604 t605):=⟨by rw [← hq_];exact (by repeat (first|(with_reducible first|exact HI564.out|apply IsS130.alloc|apply IsS130.drewN|apply IsS130.drew|apply IsS130.set_0|apply IsS130.set_1|apply IsS130.set_2|refine IsS130.far ?_ NB564_567.out _|refine IsS130.far ?_ NB564_569.out _|refine IsS130.far ?_ NB564_599.out _)|exact HI564.out))⟩;have n6_:Aside0 (Below w.heap.size w w180):=⟨by rw [← hq_];exact (by repeat (first|(with_reducible first|exact HB.out|apply below_alloc|apply pw_below_drewN|apply below_drew1|refine below_set ?_ (IsS130.ge HI564.out)|refine below_set ?_ GE567.out|refine below_set ?_ GE569.out|refine below_set ?_ GE599.out)|exact HB.out))⟩;clear HO598 HO602 BK567 BK569 BK599 HI564 HB hq_;have HO598:=n0_;have HO602:=n1_;have BK567:=n2_;have BK569:=n3_;have BK599:=n4_;have HI564:=n5_;have HB:=n6_;clear n0_ n1_ n2_ n3_ n4_ n5_ n6_))
                    have n0_:=Aside0.mk (Kd.R_drew HO598.out)
                    have n1_:=Aside0.mk (Kd.V_drew HO602.out)
                    have n2_:=Aside0.mk (blk_drew BK567.out)
                    have n3_:=Aside0.mk (blk_drew BK569.out)
                    have n4_:=Aside0.mk (blk_drew BK599.out)
                    have n5_:=Aside0.mk (IsS130.drew HI564.out)
                    have n6_:=Aside0.mk (below_drew1 HB.out)
                    clear HO598
                    clear HO602
                    clear BK567
                    clear BK569
                    clear BK599
                    clear HI564
                    clear HB
                    have HO598:=n0_
                    have HO602:=n1_
                    have BK567:=n2_
                    have BK569:=n3_
                    have BK599:=n4_
                    have HI564:=n5_
                    have HB:=n6_
                    clear n0_ n1_ n2_ n3_ n4_ n5_ n6_
                    refine start_ (n:=5) (S:=fun w'=>w'.cell? ⟨gb567,0,none⟩=some (.string t594)∧w'.cell? ⟨gb567,1,none⟩=some (.int .i64 t595)) (ds:=[]) #[false,false,false,false,false] (by kernel_rfl) rfl rfl ⟨(blk_cell BK567.out 0).trans rfl,(blk_cell BK567.out 1).trans rfl⟩ (fun hHeld=>?_)
                    generalize w180.drew=w182 at HO598 HO602 BK567 BK569 BK599 HI564 HB hHeld ⊢
                    refine pure_ (i:=0) (N:=some 104) (v:=?_) (a':=?_) #[true,false,false,false,false] rfl rfl (by kernel_rfl) (fun _ _ _ h=>h) (Or.inl ⟨by rfl,?_⟩) ?_ ?_
                    rotate_left
                    ·
                     intro w'
                     go_simp
                     with_reducible rfl
                    rotate_left
                    ·
                     simp only [Act.put,List.setIfInBounds_toArray,List.set_cons_zero,List.set_cons_succ,i64_w,i32_w]
                     rfl
                    refine pure_ (i:=2) (N:=some 106) (v:=?_) (a':=?_) #[true,false,true,false,false] rfl rfl (by kernel_rfl) (fun _ _ _ h=>h) (Or.inl ⟨by rfl,?_⟩) ?_ ?_
                    rotate_left
                    ·
                     intro w'
                     go_simp
                     with_reducible rfl
                    rotate_left
                    ·
                     simp only [Act.put,List.setIfInBounds_toArray,List.set_cons_zero,List.set_cons_succ,i64_w,i32_w]
                     rfl
                    refine take_ (i:=3) (N:=some 107) (v:=?_) (a':=?_) #[true,false,true,true,false] rfl rfl (by kernel_rfl) (fun _ _ _ h=>h) (Or.inl ⟨by rfl,?_⟩) hHeld ?_ ?_
                    rotate_left
                    ·
                     rintro w' ⟨s0,s1⟩
                     go_simp
                     with_reducible rfl
                    rotate_left
                    ·
                     simp only [Act.put,List.setIfInBounds_toArray,List.set_cons_zero,List.set_cons_succ,i64_w,i32_w]
                     rfl
                    refine one_ (i:=1) (N:=some 105) #[true,true,true,true,false] rfl rfl (by kernel_rfl) (by decide) (fun K hK=>?_)
                    refine goes_ Try.func68 (by kernel_rfl) rfl #[.pointer (some ⟨g564,0,none⟩)] (by rfl) rfl rfl (by (try simp only [List.map_toArray,List.map_cons,List.map_nil]);first|done|rfl|(simp only [List.length_drop,List.length_take];rfl)) ?_
                    with_reducible refine (prng_Gen_Used.calls g564 t603 t604 t605 t607 t608 t609 t610 w _ ?side1 ?side2 A163.out).mono ?_
                    (case side1=>repeat (first|(with_reducible first|exact HI564.out|apply IsS130.alloc|apply IsS130.drewN|apply IsS130.drew|apply IsS130.set_0|apply IsS130.set_1|apply IsS130.set_2|refine IsS130.far ?_ NB564_567.out _|refine IsS130.far ?_ NB564_569.out _|refine IsS130.far ?_ NB564_599.out _)|exact HI564.out))
                    (case side2=>repeat (first|(with_reducible first|exact HB.out|apply below_alloc|apply pw_below_drewN|apply below_drew1|refine below_set ?_ (IsS130.ge HI564.out)|refine below_set ?_ GE567.out|refine below_set ?_ GE569.out|refine below_set ?_ GE599.out)|exact HB.out))
                    rintro e w183 ⟨rfl,hi,hb,hk⟩
                    refine ⟨_,rfl,?_⟩
                    have n0_:=Aside0.mk (KeepBut.blk hk (g':=gb567) (o:=.cells #[.string t594,.int .i64 t595] 83 (0,0)) (by (with_reducible repeat (first|refine blk_drewN ?_ _|refine blk_drew ?_|refine blk_alloc ?_ _));exact BK567.out) NB567_564.out (by simp))
                    have n1_:=Aside0.mk (KeepBut.blk hk (g':=gb569) (o:=.cells #[.int .i64 ((rd_T90 l1 x7_2).f0),.int .i64 x570001_153,.int .i64 ((rd_T90 l1 x7_2).f2)] 90 (0,0)) (by (with_reducible repeat (first|refine blk_drewN ?_ _|refine blk_drew ?_|refine blk_alloc ?_ _));exact BK569.out) NB569_564.out (by simp))
                    have n2_:=Aside0.mk (Kd.R_mono (Kd.R_keep (IsS130.apart (show IsS130 w _ g564 t603 t604 t605 from by repeat (first|(with_reducible first|exact HI564.out|apply IsS130.alloc|apply IsS130.drewN|apply IsS130.drew|apply IsS130.set_0|apply IsS130.set_1|apply IsS130.set_2|refine IsS130.far ?_ NB564_567.out _|refine IsS130.far ?_ NB564_569.out _|refine IsS130.far ?_ NB564_599.out _)|exact HI564.out)) (by (with_reducible repeat (first|apply Kd.R_alloc|apply Kd.R_drewN|apply Kd.R_drew));exact HO598.out) (by decide)) hk (fun _ h=>h.2)) (fun _ h=>h.1))
                    have n3_:=Aside0.mk (KeepBut.blk hk (g':=gb599) (o:=.cells #[.string t594,.int .i64 t595,.slice Ao176 t596.length co176] 94 (0,0)) (by (with_reducible repeat (first|refine blk_drewN ?_ _|refine blk_drew ?_|refine blk_alloc ?_ _));exact BK599.out) NB599_564.out (by simp))
                    have n4_:=Aside0.mk (Kd.V_mono (Kd.V_keep (Kd.V_mono (ok:=fun k_=>(some k_≠(.slice Ao176 t596.length co176:Value).ownBlock∧(k_≠gb567∧(k_≠gb569∧(k_≠gb599∧k_≠g564))))) (by (with_reducible repeat (first|apply Kd.V_alloc|apply Kd.V_drewN|apply Kd.V_drew));first|exact HO602.out|exact Kd.V_mono HO602.out (fun _ h_=>by simpa only [and_comm,and_left_comm,and_assoc] using h_)) (fun k_ hk_=>(⟨hk_,hk_.2.2.2.2⟩:_∧k_≠g564))) hk (fun _ h=>h.2)) (fun _ h=>h.1))
                    have n5_:=Aside0.mk (hb)
                    have n6_:=Aside0.mk (hi)
                    clear BK567
                    clear BK569
                    clear HO598
                    clear BK599
                    clear HO602
                    clear HB
                    clear HI564
                    have BK567:=n0_
                    have BK569:=n1_
                    have HO598:=n2_
                    have BK599:=n3_
                    have HO602:=n4_
                    have HB:=n5_
                    have HI564:=n6_
                    clear n0_ n1_ n2_ n3_ n4_ n5_ n6_
                    (try clear hb)
                    (try clear hb2)
                    (try clear hk)
                    (try clear hi)
                    refine hK.out _ _ ⟨(blk_cell BK567.out 0).trans rfl,(blk_cell BK567.out 1).trans rfl⟩ (fun hHeld=>?_)
                    clear hK K
                    refine norm_ (a':=?_) ?_ ?_
                    rotate_left
                    ·
                     show Act.put _ (some 105) _=_
                     simp only [Act.put,List.setIfInBounds_toArray,List.set_cons_zero,List.set_cons_succ,i64_w,i32_w]
                     rfl
                    refine pure_ (i:=4) (N:=some 108) (v:=?_) (a':=?_) #[true,true,true,true,true] rfl rfl (by kernel_rfl) (fun _ _ _ h=>h) (Or.inl ⟨by rfl,?_⟩) ?_ ?_
                    rotate_left
                    ·
                     intro w'
                     go_simp
                     with_reducible rfl
                    rotate_left
                    ·
                     simp only [Act.put,List.setIfInBounds_toArray,List.set_cons_zero,List.set_cons_succ,i64_w,i32_w]
                     rfl
                    refine done_ (by kernel_rfl) ?_
                    try go_wp2
                    go_roundg kj153
                    case measure=>have:=HJ3.out;have:=HK2.out;have:=HJ19.out;have:=HJ141.out;have:=HJ153.out;omega
                    case rel=>exact ⟨(wrap64 (x7_2+1)),(t608),(t609),(t610),(t594),(t595),(by first|rfl|(simp;done)|(simp [*];done)),H',⟨by have:=HJ3.out;have:=HK2.out;have:=HJ19.out;have:=HJ141.out;have:=HJ153.out;omega⟩,⟨by (with_reducible repeat (first|refine blk_drewN ?_ _|refine blk_drew ?_|refine blk_alloc ?_ _));exact BK567.out⟩,⟨by repeat (first|(with_reducible first|exact HI564.out|apply IsS130.alloc|apply IsS130.drewN|apply IsS130.drew|apply IsS130.set_0|apply IsS130.set_1|apply IsS130.set_2|refine IsS130.far ?_ NB564_567.out _|refine IsS130.far ?_ NB564_569.out _|refine IsS130.far ?_ NB564_599.out _)|exact HI564.out)⟩,⟨by repeat (first|(with_reducible first|exact HB.out|apply below_alloc|apply pw_below_drewN|apply below_drew1|refine below_set ?_ (IsS130.ge HI564.out)|refine below_set ?_ GE567.out|refine below_set ?_ GE569.out|refine below_set ?_ GE599.out)|exact HB.out)⟩⟩
                   ·
                    rw [if_neg c164] at H
                    have c164b0:(t607 == t595)=false:=beq_eq_false_iff_ne.mpr c164
                    have c164b1:(t607 != t595)=true:=bne_iff_ne.mpr c164
                    exact absurd (Option.some.inj H) (by simp)
                  ·
                   replace c162:=Bool.eq_false_iff.mpr c162
                   subst c162
                   have H1:(some false)=some true:=by rw [if_neg (show ¬ (false=true) by decide)] at H;exact H
                   clear H
                   have H:=H1
                   clear H1
                   exact absurd (Option.some.inj H) (by simp)
             ·
              rw [if_neg c141] at H
              have c141b0:(((rd_T90 l1 x7_2).f0) == 2)=false:=beq_eq_false_iff_ne.mpr c141
              have c141b1:(((rd_T90 l1 x7_2).f0) != 2)=true:=bne_iff_ne.mpr c141
              replace H:=Option.bind_eq_some_iff.mp H
              obtain ⟨⟨t611,t612,t613,t614⟩,A2200,H⟩:=H
              replace H:(if t611=x568001_2 then (mosaiclaw04_PrngDraws.l0 kj19 l1 (wrap64 (x7_2+1)) t612 t613 t614 x568000_2 x568001_2) else (some false))=some true:=H
              have A220:=Aside0.mk A2200
              clear A2200
              by_cases c221:t611=x568001_2
              ·
               rw [if_pos c221] at H
               have c221b0:(t611 == x568001_2)=true:=beq_iff_eq.mpr c221
               have c221b1:(t611 != x568001_2)=false:=bne_eq_false_iff_eq.mpr c221
               clear c221
               have H':=Aside0.mk H
               clear H
               have p568:0≤(x7_2:Int):=of_decide_eq_true (by first|(with_reducible assumption)|assumption)
               have q568:x7_2 < (l1.length:Int):=of_decide_eq_true (by first|(with_reducible assumption)|assumption)
               obtain ⟨ad568,e568,hx568_0,hx568_1,hx568_2⟩:=at_T90 HR1.out x7_2 p568 q568
               cases e568
               replace hx568_0:=(HB.out.cell (World.block_lt_of_cell? w _ hx568_0)).trans hx568_0
               replace hx568_1:=(HB.out.cell (World.block_lt_of_cell? w _ hx568_1)).trans hx568_1
               replace hx568_2:=(HB.out.cell (World.block_lt_of_cell? w _ hx568_2)).trans hx568_2
               replace p568:=eq_true p568
               replace q568:=eq_true q568
               try go_wp2_with (first|((with_reducible refine gate_dst (N:=8) rfl ?_);(try (refine gate_guard (by rfl) ?_;dsimp only));refine box_event ?hg (N:=8) ?hd (cs:=#[.int .i64 0,.int .i64 0,.int .i64 0]) (t:=90) ?hr ?_;(case hd=>rfl);(case hg=>rfl);(case hr=>first|(go_simp;done)|(go_simp;rfl));intro gb569 hg w222 hbox hb;have n0_:=Aside0.mk (blk_below (g:=gb567) (o:=.cells #[.string x568000_2,.int .i64 x568001_2] 83 (0,0)) (by (with_reducible repeat (first|refine blk_drewN ?_ _|refine blk_drew ?_|refine blk_alloc ?_ _));exact BK567.out) hb);have n1_:=Aside0.mk (IsS130.below (by repeat (first|(with_reducible first|exact HI564.out|apply IsS130.alloc|apply IsS130.drewN|apply IsS130.drew|apply IsS130.set_0|apply IsS130.set_1|apply IsS130.set_2|refine IsS130.far ?_ NB564_567.out _)|exact HI564.out)) hb);have n2_:=Aside0.mk (below_step (by repeat (first|(with_reducible first|exact HB.out|apply below_alloc|apply pw_below_drewN|apply below_drew1|refine below_set ?_ (IsS130.ge HI564.out)|refine below_set ?_ GE567.out)|exact HB.out)) hb);have n3_:=Aside0.mk (hbox);have n4_:=Aside0.mk ((by rw [hg];exact (below_size (by repeat (first|(with_reducible first|exact HB.out|apply below_alloc|apply pw_below_drewN|apply below_drew1|refine below_set ?_ (IsS130.ge HI564.out)|refine below_set ?_ GE567.out)|exact HB.out))):w.heap.size≤gb569));have n5_:=Aside0.mk ((by rw [hg];exact (below_size (by repeat (first|(with_reducible first|exact HB.out|apply below_alloc|apply pw_below_drewN|apply below_drew1|refine below_set ?_ (IsS130.ge HI564.out)|refine below_set ?_ GE567.out)|exact HB.out))):w.heap.size≤gb569));have n6_:=Aside0.mk ((by rw [hg];exact Nat.ne_of_lt (blk_lt (g:=gb567) (o:=.cells #[.string x568000_2,.int .i64 x568001_2] 83 (0,0)) (by (with_reducible repeat (first|refine blk_drewN ?_ _|refine blk_drew ?_|refine blk_alloc ?_ _));exact BK567.out)):gb567≠gb569));have n7_:=Aside0.mk ((by rw [hg];exact Nat.ne_of_gt (blk_lt (g:=gb567) (o:=.cells #[.string x568000_2,.int .i64 x568001_2] 83 (0,0)) (by (with_reducible repeat (first|refine blk_drewN ?_ _|refine blk_drew ?_|refine blk_alloc ?_ _));exact BK567.out)):gb569≠gb567));have n8_:=Aside0.mk ((by rw [hg];exact Nat.ne_of_lt (IsS130.lt (show IsS130 w _ g564 x565000_2 x565001_2 x565002_2 from by repeat (first|(with_reducible first|exact HI564.out|apply IsS130.alloc|apply IsS130.drewN|apply IsS130.drew|apply IsS130.set_0|apply IsS130.set_1|apply IsS130.set_2|refine IsS130.far ?_ NB564_567.out _)|exact HI564.out))):g564≠gb569));have n9_:=Aside0.mk ((by rw [hg];exact Nat.ne_of_gt (IsS130.lt (show IsS130 w _ g564 x565000_2 x565001_2 x565002_2 from by repeat (first|(with_reducible first|exact HI564.out|apply IsS130.alloc|apply IsS130.drewN|apply IsS130.drew|apply IsS130.set_0|apply IsS130.set_1|apply IsS130.set_2|refine IsS130.far ?_ NB564_567.out _)|exact HI564.out))):gb569≠g564));clear BK567;clear HI564;clear HB;have BK567:=n0_;have HI564:=n1_;have HB:=n2_;have BK569:=n3_;have GW569:=n4_;have GE569:=n5_;have NB567_569:=n6_;have NB569_567:=n7_;have NB564_569:=n8_;have NB569_564:=n9_;clear n0_ n1_ n2_ n3_ n4_ n5_ n6_ n7_ n8_ n9_;clear hb hbox hg;have hnb223:=NB569_567.out;have hnc223:=NB567_569.out;have hnb224:=NB569_564.out;have hnc224:=NB564_569.out;have hcz225_0:w222.cell? ⟨gb569,0,none⟩=some (.int .i64 0):=(blk_cell BK569.out 0).trans rfl;have hcz225_1:w222.cell? ⟨gb569,1,none⟩=some (.int .i64 0):=(blk_cell BK569.out 1).trans rfl;have hcz225_2:w222.cell? ⟨gb569,2,none⟩=some (.int .i64 0):=(blk_cell BK569.out 2).trans rfl;have hfz225_0:=blk_frozen BK569.out 0;have hfz225_1:=blk_frozen BK569.out 1;have hfz225_2:=blk_frozen BK569.out 2))
               have n0_:Aside0 ((((w222.setCell ⟨gb569,0,none⟩ (.int .i64 ((rd_T90 l1 x7_2).f0))).setCell ⟨gb569,1,none⟩ (.int .i64 ((rd_T90 l1 x7_2).f1))).setCell ⟨gb569,2,none⟩ (.int .i64 ((rd_T90 l1 x7_2).f2))).heap[gb567]?=some (.cells #[.string x568000_2,.int .i64 x568001_2] 83 (0,0))):=⟨by (with_reducible repeat (first|refine blk_drewN ?_ _|refine blk_drew ?_|refine blk_alloc ?_ _));refine blk_far ?_ NB567_569.out _;(with_reducible repeat (first|refine blk_drewN ?_ _|refine blk_drew ?_|refine blk_alloc ?_ _));refine blk_far ?_ NB567_569.out _;(with_reducible repeat (first|refine blk_drewN ?_ _|refine blk_drew ?_|refine blk_alloc ?_ _));refine blk_far ?_ NB567_569.out _;(with_reducible repeat (first|refine blk_drewN ?_ _|refine blk_drew ?_|refine blk_alloc ?_ _));exact BK567.out⟩
               have n1_:Aside0 ((((w222.setCell ⟨gb569,0,none⟩ (.int .i64 ((rd_T90 l1 x7_2).f0))).setCell ⟨gb569,1,none⟩ (.int .i64 ((rd_T90 l1 x7_2).f1))).setCell ⟨gb569,2,none⟩ (.int .i64 ((rd_T90 l1 x7_2).f2))).heap[gb569]?=some (.cells #[.int .i64 ((rd_T90 l1 x7_2).f0),.int .i64 ((rd_T90 l1 x7_2).f1),.int .i64 ((rd_T90 l1 x7_2).f2)] 90 (0,0))):=⟨by (with_reducible repeat (first|refine blk_drewN ?_ _|refine blk_drew ?_|refine blk_alloc ?_ _));refine blk_put (cs:=#[.int .i64 ((rd_T90 l1 x7_2).f0),.int .i64 ((rd_T90 l1 x7_2).f1),.int .i64 0]) ?_ 2 _ rfl;(with_reducible repeat (first|refine blk_drewN ?_ _|refine blk_drew ?_|refine blk_alloc ?_ _));refine blk_put (cs:=#[.int .i64 ((rd_T90 l1 x7_2).f0),.int .i64 0,.int .i64 0]) ?_ 1 _ rfl;(with_reducible repeat (first|refine blk_drewN ?_ _|refine blk_drew ?_|refine blk_alloc ?_ _));refine blk_put (cs:=#[.int .i64 0,.int .i64 0,.int .i64 0]) ?_ 0 _ rfl;(with_reducible repeat (first|refine blk_drewN ?_ _|refine blk_drew ?_|refine blk_alloc ?_ _));exact BK569.out⟩
               have n2_:Aside0 (IsS130 w (((w222.setCell ⟨gb569,0,none⟩ (.int .i64 ((rd_T90 l1 x7_2).f0))).setCell ⟨gb569,1,none⟩ (.int .i64 ((rd_T90 l1 x7_2).f1))).setCell ⟨gb569,2,none⟩ (.int .i64 ((rd_T90 l1 x7_2).f2))) g564 x565000_2 x565001_2 x565002_2):=⟨by repeat (first|(with_reducible first|exact HI564.out|apply IsS130.alloc|apply IsS130.drewN|apply IsS130.drew|apply IsS130.set_0|apply IsS130.set_1|apply IsS130.set_2|refine IsS130.far ?_ NB564_567.out _|refine IsS130.far ?_ NB564_569.out _)|exact HI564.out)⟩
               have n3_:Aside0 (Below w.heap.size w (((w222.setCell ⟨gb569,0,none⟩ (.int .i64 ((rd_T90 l1 x7_2).f0))).setCell ⟨gb569,1,none⟩ (.int .i64 ((rd_T90 l1 x7_2).f1))).setCell ⟨gb569,2,none⟩ (.int .i64 ((rd_T90 l1 x7_2).f2)))):=⟨by repeat (first|(with_reducible first|exact HB.out|apply below_alloc|apply pw_below_drewN|apply below_drew1|refine below_set ?_ (IsS130.ge HI564.out)|refine below_set ?_ GE567.out|refine below_set ?_ GE569.out)|exact HB.out)⟩
               (try clear BK567)
               (try clear BK569)
               (try clear HI564)
               (try clear HB)
               generalize (((w222.setCell ⟨gb569,0,none⟩ (.int .i64 ((rd_T90 l1 x7_2).f0))).setCell ⟨gb569,1,none⟩ (.int .i64 ((rd_T90 l1 x7_2).f1))).setCell ⟨gb569,2,none⟩ (.int .i64 ((rd_T90 l1 x7_2).f2)))=w226 at n0_ n1_ n2_ n3_ ⊢
               have BK567:=n0_
               have BK569:=n1_
               have HI564:=n2_
               have HB:=n3_
               clear n0_ n1_ n2_ n3_
               have n0_:=Aside0.mk (blk_drew BK567.out)
               have n1_:=Aside0.mk (blk_drew BK569.out)
               have n2_:=Aside0.mk (IsS130.drew HI564.out)
               have n3_:=Aside0.mk (below_drew1 HB.out)
               clear BK567
               clear BK569
               clear HI564
               clear HB
               have BK567:=n0_
               have BK569:=n1_
               have HI564:=n2_
               have HB:=n3_
               clear n0_ n1_ n2_ n3_
               refine start_ (n:=5) (S:=fun w'=>w'.cell? ⟨gb567,0,none⟩=some (.string x568000_2)∧w'.cell? ⟨gb567,1,none⟩=some (.int .i64 x568001_2)) (ds:=[]) #[false,false,false,false,false] (by kernel_rfl) rfl rfl ⟨(blk_cell BK567.out 0).trans rfl,(blk_cell BK567.out 1).trans rfl⟩ (fun hHeld=>?_)
               generalize w226.drew=w227 at BK567 BK569 HI564 HB hHeld ⊢
               refine pure_ (i:=0) (N:=some 104) (v:=?_) (a':=?_) #[true,false,false,false,false] rfl rfl (by kernel_rfl) (fun _ _ _ h=>h) (Or.inl ⟨by rfl,?_⟩) ?_ ?_
               rotate_left
               ·
                intro w'
                go_simp
                with_reducible rfl
               rotate_left
               ·
                simp only [Act.put,List.setIfInBounds_toArray,List.set_cons_zero,List.set_cons_succ,i64_w,i32_w]
                rfl
               refine pure_ (i:=2) (N:=some 106) (v:=?_) (a':=?_) #[true,false,true,false,false] rfl rfl (by kernel_rfl) (fun _ _ _ h=>h) (Or.inl ⟨by rfl,?_⟩) ?_ ?_
               rotate_left
               ·
                intro w'
                go_simp
                with_reducible rfl
               rotate_left
               ·
                simp only [Act.put,List.setIfInBounds_toArray,List.set_cons_zero,List.set_cons_succ,i64_w,i32_w]
                rfl
               refine take_ (i:=3) (N:=some 107) (v:=?_) (a':=?_) #[true,false,true,true,false] rfl rfl (by kernel_rfl) (fun _ _ _ h=>h) (Or.inl ⟨by rfl,?_⟩) hHeld ?_ ?_
               rotate_left
               ·
                rintro w' ⟨s0,s1⟩
                go_simp
                with_reducible rfl
               rotate_left
               ·
                simp only [Act.put,List.setIfInBounds_toArray,List.set_cons_zero,List.set_cons_succ,i64_w,i32_w]
                rfl
               refine one_ (i:=1) (N:=some 105) #[true,true,true,true,false] rfl rfl (by kernel_rfl) (by decide) (fun K hK=>?_)
               refine goes_ Try.func68 (by kernel_rfl) rfl #[.pointer (some ⟨g564,0,none⟩)] (by rfl) rfl rfl (by (try simp only [List.map_toArray,List.map_cons,List.map_nil]);first|done|rfl|(simp only [List.length_drop,List.length_take];rfl)) ?_
               with_reducible refine (prng_Gen_Used.calls g564 x565000_2 x565001_2 x565002_2 t611 t612 t613 t614 w _ ?side1 ?side2 A220.out).mono ?_
               (case side1=>repeat (first|(with_reducible first|exact HI564.out|apply IsS130.alloc|apply IsS130.drewN|apply IsS130.drew|apply IsS130.set_0|apply IsS130.set_1|apply IsS130.set_2|refine IsS130.far ?_ NB564_567.out _|refine IsS130.far ?_ NB564_569.out _)|exact HI564.out))
               (case side2=>repeat (first|(with_reducible first|exact HB.out|apply below_alloc|apply pw_below_drewN|apply below_drew1|refine below_set ?_ (IsS130.ge HI564.out)|refine below_set ?_ GE567.out|refine below_set ?_ GE569.out)|exact HB.out))
               rintro e w228 ⟨rfl,hi,hb,hk⟩
               refine ⟨_,rfl,?_⟩
               have n0_:=Aside0.mk (KeepBut.blk hk (g':=gb567) (o:=.cells #[.string x568000_2,.int .i64 x568001_2] 83 (0,0)) (by (with_reducible repeat (first|refine blk_drewN ?_ _|refine blk_drew ?_|refine blk_alloc ?_ _));exact BK567.out) NB567_564.out (by simp))
               have n1_:=Aside0.mk (KeepBut.blk hk (g':=gb569) (o:=.cells #[.int .i64 ((rd_T90 l1 x7_2).f0),.int .i64 ((rd_T90 l1 x7_2).f1),.int .i64 ((rd_T90 l1 x7_2).f2)] 90 (0,0)) (by (with_reducible repeat (first|refine blk_drewN ?_ _|refine blk_drew ?_|refine blk_alloc ?_ _));exact BK569.out) NB569_564.out (by simp))
               have n2_:=Aside0.mk (hb)
               have n3_:=Aside0.mk (hi)
               clear BK567
               clear BK569
               clear HB
               clear HI564
               have BK567:=n0_
               have BK569:=n1_
               have HB:=n2_
               have HI564:=n3_
               clear n0_ n1_ n2_ n3_
               (try clear hb)
               (try clear hb2)
               (try clear hk)
               (try clear hi)
               refine hK.out _ _ ⟨(blk_cell BK567.out 0).trans rfl,(blk_cell BK567.out 1).trans rfl⟩ (fun hHeld=>?_)
               clear hK K
               refine norm_ (a':=?_) ?_ ?_
               rotate_left
               ·
                show Act.put _ (some 105) _=_
                simp only [Act.put,List.setIfInBounds_toArray,List.set_cons_zero,List.set_cons_succ,i64_w,i32_w]
                rfl
               refine pure_ (i:=4) (N:=some 108) (v:=?_) (a':=?_) #[true,true,true,true,true] rfl rfl (by kernel_rfl) (fun _ _ _ h=>h) (Or.inl ⟨by rfl,?_⟩) ?_ ?_
               rotate_left
               ·
                intro w'
                go_simp
                with_reducible rfl
               rotate_left
               ·
                simp only [Act.put,List.setIfInBounds_toArray,List.set_cons_zero,List.set_cons_succ,i64_w,i32_w]
                rfl
               refine done_ (by kernel_rfl) ?_
               try go_wp2
               go_roundg kj19
               case measure=>have:=HJ3.out;have:=HK2.out;have:=HJ19.out;omega
               case rel=>exact ⟨(wrap64 (x7_2+1)),(t612),(t613),(t614),(x568000_2),(x568001_2),(by first|rfl|(simp;done)|(simp [*];done)),H',⟨by have:=HJ3.out;have:=HK2.out;have:=HJ19.out;omega⟩,⟨by (with_reducible repeat (first|refine blk_drewN ?_ _|refine blk_drew ?_|refine blk_alloc ?_ _));exact BK567.out⟩,⟨by repeat (first|(with_reducible first|exact HI564.out|apply IsS130.alloc|apply IsS130.drewN|apply IsS130.drew|apply IsS130.set_0|apply IsS130.set_1|apply IsS130.set_2|refine IsS130.far ?_ NB564_567.out _|refine IsS130.far ?_ NB564_569.out _)|exact HI564.out)⟩,⟨by repeat (first|(with_reducible first|exact HB.out|apply below_alloc|apply pw_below_drewN|apply below_drew1|refine below_set ?_ (IsS130.ge HI564.out)|refine below_set ?_ GE567.out|refine below_set ?_ GE569.out)|exact HB.out)⟩⟩
              ·
               rw [if_neg c221] at H
               have c221b0:(t611 == x568001_2)=false:=beq_eq_false_iff_ne.mpr c221
               have c221b1:(t611 != x568001_2)=true:=bne_iff_ne.mpr c221
               exact absurd (Option.some.inj H) (by simp)
          ·
           rw [if_neg c24] at H
           exact absurd H (by simp)
         ·
          rw [if_neg c23] at H
          exact absurd H (by simp)
        ·
         replace c22:=Bool.eq_false_iff.mpr c22
         subst c22
         have H1:(some true)=some true:=rfl
         clear H
         have H:=H1
         clear H1
         clear H
         go_wp2
         go_ret
         exact ⟨by first|rfl|(simp [errW_none,errW_some] <;> rfl)|(simp [*,errW_none,errW_some] <;> rfl),by repeat (first|(with_reducible first|exact HB.out|apply below_alloc|apply pw_below_drewN|apply below_drew1|refine below_set ?_ (IsS130.ge HI564.out)|refine below_set ?_ GE567.out)|exact HB.out)⟩
end Go.Proofs.Ytelcaepenfjloaa.Print
/-! #### MaPrngNil -/
/- A nil generator; the laws of prng at a seed that is too long. -/
namespace Go.Proofs.Ytelcaepenfjloaa.Print
open Go.RowKit Go.Proofs.YtelcaepenfjloaaW.PrintWords Go.Proofs.YtelcaepenfjloaaW.PrintLast Go.Proofs.YtelcaepenfjloaaW.PrintMore
set_option linter.unusedVariables false
set_option linter.unusedSimpArgs false
theorem new_nil_calls (s:ByteArray) (h:64 < (s.size:Int)) (w:World):Calls Try.prog 62 #[.string s] w fun e w'=>e=.returned (.pointer none)∧Below w.heap.size w w':=by
 have HB:=Aside0.mk (Below.refl w.heap.size w)
 go_enter Try.func62,Try.ntmps62
 go_wp2
 go_ret
 exact ⟨rfl,by repeat (first|(with_reducible first|exact HB.out|apply below_alloc|apply pw_below_drewN|apply below_drew1)|exact HB.out)⟩
theorem nil_word_calls (w:World):Calls Try.prog 67 #[.pointer none] w fun e w'=>e=.returned (.int .u32 0)∧Below w.heap.size w w':=by
 have HB:=Aside0.mk (Below.refl w.heap.size w)
 go_enter Try.func67,Try.ntmps67
 go_wp2
 go_ret
 exact ⟨rfl,by repeat (first|(with_reducible first|exact HB.out|apply below_alloc|apply pw_below_drewN|apply below_drew1)|exact HB.out)⟩
theorem nil_used_calls (w:World):Calls Try.prog 68 #[.pointer none] w fun e w'=>e=.returned (.int .i64 0)∧Below w.heap.size w w':=by
 have HB:=Aside0.mk (Below.refl w.heap.size w)
 go_enter Try.func68,Try.ntmps68
 go_wp2
 go_ret
 exact ⟨rfl,by repeat (first|(with_reducible first|exact HB.out|apply below_alloc|apply pw_below_drewN|apply below_drew1)|exact HB.out)⟩
theorem nil_below_calls (n:Int) (w:World):Calls Try.prog 70 #[.pointer none,.int .i64 n] w fun e w'=>e=.returned (.int .i64 0)∧Below w.heap.size w w':=by
 have HB:=Aside0.mk (Below.refl w.heap.size w)
 go_enter Try.func70,Try.ntmps70
 go_wp2
 go_ret
 exact ⟨rfl,by repeat (first|(with_reducible first|exact HB.out|apply below_alloc|apply pw_below_drewN|apply below_drew1)|exact HB.out)⟩
theorem nil_pick_calls (n k:Int) (w:World):Calls Try.prog 63 #[.pointer none,.int .i64 n,.int .i64 k] w fun e w'=>e=.returned (.slice none 0 0)∧Below w.heap.size w w':=by
 have HB:=Aside0.mk (Below.refl w.heap.size w)
 go_enter Try.func63,Try.ntmps63
 go_wp2
 go_ret
 exact ⟨rfl,by repeat (first|(with_reducible first|exact HB.out|apply below_alloc|apply pw_below_drewN|apply below_drew1)|exact HB.out)⟩
def mosaiclaw04_PrngNil.f (k:Nat) (a0 a1:Int):Option Bool:=if mosaiclaw04_awake.f k=some true then some true else none
theorem mosaiclaw04_PrngNil.calls (k:Nat) (a0 a1:Int) (r:Bool) (w:World) (h:mosaiclaw04_PrngNil.f k a0 a1=some r) :
  Calls Try.prog 19 #[.int .i64 a0,.int .i64 a1] w fun e w'=>e=.returned (.bool r)∧Below w.heap.size w w':=by
 unfold mosaiclaw04_PrngNil.f at h
 split at h
 case isFalse=>exact absurd h (by simp)
 rename_i hA
 obtain rfl:=Option.some.inj h
 have HA:=Aside0.mk hA
 clear h hA
 have HB:=Aside0.mk (Below.refl w.heap.size w)
 go_enter Try.func19,Try.ntmps19
 go_wp2_with (first|(go_at_call 59;refine (mosaiclaw04_awake.calls k true _ HA.out).mono ?_;rintro e w1 ⟨rfl,hb⟩;have n0_:=Aside0.mk (below_step (by repeat (first|(with_reducible first|exact HB.out|apply below_alloc|apply pw_below_drewN|apply below_drew1)|exact HB.out)) hb);clear HB;have HB:=n0_;clear n0_ hb)|(go_at_call 67;refine (nil_word_calls _).mono ?_;rintro e w2 ⟨rfl,hb⟩;have n0_:=Aside0.mk (below_step (by repeat (first|(with_reducible first|exact HB.out|apply below_alloc|apply pw_below_drewN|apply below_drew1)|exact HB.out)) hb);clear HB;have HB:=n0_;clear n0_ hb)|(go_at_call 68;refine (nil_used_calls _).mono ?_;rintro e w3 ⟨rfl,hb⟩;have n0_:=Aside0.mk (below_step (by repeat (first|(with_reducible first|exact HB.out|apply below_alloc|apply pw_below_drewN|apply below_drew1)|exact HB.out)) hb);clear HB;have HB:=n0_;clear n0_ hb)|(go_at_call 70;refine (nil_below_calls _ _).mono ?_;rintro e w4 ⟨rfl,hb⟩;have n0_:=Aside0.mk (below_step (by repeat (first|(with_reducible first|exact HB.out|apply below_alloc|apply pw_below_drewN|apply below_drew1)|exact HB.out)) hb);clear HB;have HB:=n0_;clear n0_ hb)|(go_at_call 63;refine (nil_pick_calls _ _ _).mono ?_;rintro e w5 ⟨rfl,hb⟩;have n0_:=Aside0.mk (below_step (by repeat (first|(with_reducible first|exact HB.out|apply below_alloc|apply pw_below_drewN|apply below_drew1)|exact HB.out)) hb);clear HB;have HB:=n0_;clear n0_ hb))
 go_ret
 exact ⟨rfl,by repeat (first|(with_reducible first|exact HB.out|apply below_alloc|apply pw_below_drewN|apply below_drew1)|exact HB.out)⟩
def mosaiclaw04_PrngDrawsW.f (k:Nat) (a0:ByteArray) (l1:List S90):Option Bool:=if 64 < (a0.size:Int) then (if mosaiclaw04_awake.f k=some true then some true else none) else mosaiclaw04_PrngDraws.f k a0 l1
theorem mosaiclaw04_PrngDrawsW.callsT (k:Nat) (a0:ByteArray) (A1:Option Addr) (c1:Nat) (l1:List S90) (w:World) (hr1:Kd.C k90 w A1 l1.length l1) (hc1:l1.length≤c1) (h:mosaiclaw04_PrngDrawsW.f k a0 l1=some true) :
  Calls Try.prog 17 #[.string a0,.slice A1 l1.length c1] w fun e w'=>e=.returned (.bool true)∧Below w.heap.size w w':=by
 unfold mosaiclaw04_PrngDrawsW.f at h
 split at h
 case isFalse=>exact mosaiclaw04_PrngDraws.callsT k a0 A1 c1 l1 w hr1 hc1 h
 rename_i hlong
 split at h
 case isFalse=>exact absurd h (by simp)
 rename_i hA
 have HA:=Aside0.mk hA
 have HNN:=Aside0.mk hlong
 clear h hA hr1 hc1
 have HB:=Aside0.mk (Below.refl w.heap.size w)
 go_enter Try.func17,Try.ntmps17
 go_wp2_with (first|(go_at_call 59;refine (mosaiclaw04_awake.calls k true _ HA.out).mono ?_;rintro e w1 ⟨rfl,hb⟩;have n0_:=Aside0.mk (below_step (by repeat (first|(with_reducible first|exact HB.out|apply below_alloc|apply pw_below_drewN|apply below_drew1)|exact HB.out)) hb);clear HB;have HB:=n0_;clear n0_ hb)|(go_at_call 62;refine (new_nil_calls _ HNN.out _).mono ?_;rintro e w2 ⟨rfl,hb⟩;have n0_:=Aside0.mk (below_step (by repeat (first|(with_reducible first|exact HB.out|apply below_alloc|apply pw_below_drewN|apply below_drew1)|exact HB.out)) hb);clear HB;have HB:=n0_;clear n0_ hb))
 go_ret
 exact ⟨rfl,by repeat (first|(with_reducible first|exact HB.out|apply below_alloc|apply pw_below_drewN|apply below_drew1)|exact HB.out)⟩
def mosaiclaw04_PrngBlocksW.f (k:Nat) (a0:ByteArray) (a1 a2:Int):Option Bool:=if 64 < (a0.size:Int)∧(a0.size:Int)≤100 then (if mosaiclaw04_awake.f k=some true∧prng_Block.f k a0 a1=some ⟨#[]⟩∧mosaicref04_Block.f k a0 a1=some ⟨#[]⟩ then some true else none) else mosaiclaw04_PrngBlocks.f k a0 a1 a2
theorem mosaiclaw04_PrngBlocksW.callsT (k:Nat) (a0:ByteArray) (a1 a2:Int) (w:World) (h:mosaiclaw04_PrngBlocksW.f k a0 a1 a2=some true) :
  Calls Try.prog 16 #[.string a0,.int .i64 a1,.int .i64 a2] w fun e w'=>e=.returned (.bool true)∧Below w.heap.size w w':=by
 unfold mosaiclaw04_PrngBlocksW.f at h
 split at h
 case isFalse=>exact mosaiclaw04_PrngBlocks.callsT k a0 a1 a2 w h
 rename_i hlong
 split at h
 case isFalse=>exact absurd h (by simp)
 rename_i hA
 obtain ⟨h64,h100⟩:=hlong
 have HA:=Aside0.mk hA
 have HNN:=Aside0.mk h64
 clear h hA
 have HB:=Aside0.mk (Below.refl w.heap.size w)
 go_enter Try.func16,Try.ntmps16
 go_wp2_with (first|(go_at_call 59;refine (mosaiclaw04_awake.calls k true _ HA.out.1).mono ?_;rintro e w1 ⟨rfl,hb⟩;have n0_:=Aside0.mk (below_step (by repeat (first|(with_reducible first|exact HB.out|apply below_alloc|apply pw_below_drewN|apply below_drew1)|exact HB.out)) hb);clear HB;have HB:=n0_;clear n0_ hb)|(go_at_call 62;refine (new_nil_calls _ HNN.out _).mono ?_;rintro e w2 ⟨rfl,hb⟩;have n0_:=Aside0.mk (below_step (by repeat (first|(with_reducible first|exact HB.out|apply below_alloc|apply pw_below_drewN|apply below_drew1)|exact HB.out)) hb);clear HB;have HB:=n0_;clear n0_ hb)|(go_at_call 64;refine (prng_Block.calls k _ _ _ _ HA.out.2.1).mono ?_;rintro e w3 ⟨rfl,hb⟩;have n0_:=Aside0.mk (below_step (by repeat (first|(with_reducible first|exact HB.out|apply below_alloc|apply pw_below_drewN|apply below_drew1)|exact HB.out)) hb);clear HB;have HB:=n0_;clear n0_ hb)|(go_at_call 65;refine (mosaicref04_Block.calls k _ _ _ _ HA.out.2.2).mono ?_;rintro e w4 ⟨rfl,hb⟩;have n0_:=Aside0.mk (below_step (by repeat (first|(with_reducible first|exact HB.out|apply below_alloc|apply pw_below_drewN|apply below_drew1)|exact HB.out)) hb);clear HB;have HB:=n0_;clear n0_ hb))
 go_loopg [9] 0 (fun gg v9 wr=>v9=.int .i64 0∧Aside0 (Below w.heap.size w wr))
 case atStart=>exact ⟨rfl,⟨by repeat (first|(with_reducible first|exact HB.out|apply below_alloc|apply pw_below_drewN|apply below_drew1)|exact HB.out)⟩⟩
 case round =>
  clear HB
  obtain ⟨rfl,HB⟩:=hrel
  go_wp2
  go_ret
  exact ⟨rfl,by repeat (first|(with_reducible first|exact HB.out|apply below_alloc|apply pw_below_drewN|apply below_drew1)|exact HB.out)⟩
end Go.Proofs.Ytelcaepenfjloaa.Print
/-! #### StmPrngDraws -/
namespace Go.Proofs.Ytelcaepenfjloaa.Print
open Go.RowKit Go.Proofs.YtelcaepenfjloaaW.PrintWords
/-- THE ONE PURE STATEMENT of mosaiclaw04_PrngDrawsW. -/
def mosaiclaw04_PrngDrawsW.Pure:Prop:=∀ (a0:ByteArray) (l1:List (S90)),((a0:ByteArray).size≤maxLen)→((l1:List (S90)).length≤maxLen∧∀ x1_∈(l1:List (S90)),((Lit.int .i64 (x1_).f0).wf=true)∧((Lit.int .i64 (x1_).f1).wf=true)∧((Lit.int .i64 (x1_).f2).wf=true))→∃ k,mosaiclaw04_PrngDrawsW.f k a0 l1=some true
end Go.Proofs.Ytelcaepenfjloaa.Print
/-! #### MaShaHex -/
/- sha.Hex: bytes in hexadecimal digits (strings.Builder). -/
namespace Go.Proofs.Ytelcaepenfjloaa.Print
open Go.RowKit Go.Proofs.YtelcaepenfjloaaW.PrintWords Go.Proofs.YtelcaepenfjloaaW.PrintLast Go.Proofs.YtelcaepenfjloaaW.PrintMore
open Go.Shelf
set_option linter.unusedVariables false
set_option linter.unusedSimpArgs false
def lays169_ren:Go.Shelf.Ren:=⟨fun|169=>90|n=>n,fun|70=>119|9=>9|0=>0|72=>121|37=>47|127=>148|3=>3|5=>5|n=>n,fun|n=>n⟩
theorem lays169:Go.Proofs.Lays.n169 Try.prog lays169_ren:={
 mixed:=by kernel_rfl
 f169:=Try.func90.trans (congrArg some (by kernel_rfl))
 t0:=Try.underlying0
 a0:=Try.isAgg0
 z0:=Try.sizeOf0
 v0:=Try.zeroValue0
 t3:=Try.underlying3
 a3:=Try.isAgg3
 z3:=Try.sizeOf3
 v3:=Try.zeroValue3
 t9:=Try.underlying9
 a9:=Try.isAgg9
 z9:=Try.sizeOf9
 v9:=Try.zeroValue9
 t37:=Try.underlying47
 a37:=Try.isAgg47
 z37:=Try.sizeOf47
 v37:=Try.zeroValue47
 t70:=Try.underlying119
 a70:=Try.isAgg119
 z70:=Try.sizeOf119
 v70:=Try.zeroValue119
 t72:=Try.underlying121
 a72:=Try.isAgg121
 z72:=Try.sizeOf121
 v72:=Try.zeroValue121
 t127:=Try.underlying148
 a127:=Try.isAgg148
 z127:=Try.sizeOf148
 v127:=Try.zeroValue148 }
theorem Builder_Extra_169:Go.Proofs.Builder.Extra Try.prog lays169_ren:={
 sizeBuilder:=by kernel_rfl
 liesBuilder:=by kernel_rfl
 t5:=Try.underlying5
 a5:=Try.isAgg5
 z5:=Try.sizeOf5
 v5:=Try.zeroValue5
 infoByte:=by kernel_rfl
 cellsByte:=by kernel_rfl
 sizeByte:=by kernel_rfl
 neB5:=by decide }
/-- What a builder that the call has made holds, handed back as a text. -/
theorem builderString_calls (B b:Nat) (l:List UInt8) (w:World) (h:Lib.IsBuilder 121 5 B b (Lib.byteCells l) w) (hBw:B≤w.heap.size) :
  Calls Try.prog 90 #[.pointer (some ⟨b,0,none⟩)] w fun e w'=>e=.returned (.string ⟨l.toArray⟩)∧Below B w w':=Go.Proofs.Any.Builder_String_any lays169 Builder_Extra_169 B b l w h hBw
theorem infoByte_:(Try.prog.info? 5).map (fun i=>(i.zero,i.size,i.bytes))=some (some (.int .u8 0),1,1):=by kernel_rfl
set_option maxHeartbeats 1000000 in
set_option maxRecDepth 100000 in
theorem copyCheck_used (b:Nat) (w:World) (h0:w.cell? ⟨b,0,none⟩=some (.pointer (some ⟨b,0,none⟩))) :
  Calls Try.prog 116 #[.pointer (some ⟨b,0,none⟩)] w fun e w'=>e=.returned (.tuple #[])∧w'=w:=by
 obtain ⟨j,hj,_⟩:=Option.map_eq_some_iff.1 Builder_Extra_169.sizeBuilder
 go_enter Try.func116,Try.ntmps116
 go_wp2
 rw [Lib.run_neq_ptr_same w _ Try.underlying119 hj]
 go_wp2
 go_end0
 exact ⟨rfl,rfl⟩
set_option maxHeartbeats 1000000 in
set_option maxRecDepth 100000 in
theorem copyCheck_fresh (b:Nat) (w:World) (h0:w.cell? ⟨b,0,none⟩=some (.pointer none)) (hsh:w.shape? b=some (121,2)) (hfz:w.frozen? ⟨b,0,none⟩=false) :
  Calls Try.prog 116 #[.pointer (some ⟨b,0,none⟩)] w fun e w'=>e=.returned (.tuple #[])∧w'=w.setCell ⟨b,0,none⟩ (.pointer (some ⟨b,0,none⟩)):=by
 obtain ⟨j,hj,hjs⟩:=Option.map_eq_some_iff.1 Builder_Extra_169.sizeBuilder
 go_enter Try.func116,Try.ntmps116
 go_wp2
 rw [Lib.run_to_unsafe w ⟨b,0,none⟩ Try.underlying119 Try.underlying152 hj (by rw [hjs];decide) hsh (Nat.zero_lt_succ 1)]
 simp only [Result.andThen]
 rw [Oper.upon_value]
 go_wp2
 rw [run_callFunc_extern Try.func125 (by kernel_rfl) (by kernel_rfl) (by kernel_rfl) (e:=Extern.AbiNoEscape.same) (by kernel_rfl)]
 rw [Lib.run_noEscape]
 simp only [Result.andThen]
 rw [Oper.upon_value]
 go_wp2
 rw [Lib.run_from_unsafe w ⟨b,0,none⟩ Try.underlying152 Try.underlying119 hj hsh Builder_Extra_169.liesBuilder]
 simp only [Result.andThen]
 rw [Oper.upon_value]
 go_wp2
 go_end0
 exact ⟨rfl,rfl⟩
theorem copyCheck_calls (B b:Nat) (bs:List Value) (w:World) (h:Lib.IsBuilder 121 5 B b bs w) :
  Calls Try.prog 116 #[.pointer (some ⟨b,0,none⟩)] w fun e w'=>e=.returned (.tuple #[])∧(Lib.BuilderAt 121 5 B b (.pointer (some ⟨b,0,none⟩)) bs w'∧Below B w w'):=by
 rcases h with h|h
 ·
  refine (copyCheck_fresh b w h.cell0 h.shape h.frozen0).mono ?_
  rintro e w' ⟨rfl,rfl⟩
  exact ⟨rfl,h.used _,(Below.refl B w).setCell (p:=⟨b,0,none⟩) h.1 _⟩
 ·
  refine (copyCheck_used b w h.cell0).mono ?_
  rintro e w' ⟨rfl,rfl⟩
  exact ⟨rfl,h,Below.refl B _⟩
set_option maxHeartbeats 2000000 in
set_option maxRecDepth 100000 in
theorem writeByte_calls (B b:Nat) (bs:List Value) (c:Int) (w:World) (h:Lib.IsBuilder 121 5 B b bs w) (hlen:bs.length+1≤140737488355328) (hBw:B≤w.heap.size) :
  Calls Try.prog 89 #[.pointer (some ⟨b,0,none⟩),.int .u8 c] w fun e w'=>e=.returned .nilIface∧(Lib.BuilderAt 121 5 B b (.pointer (some ⟨b,0,none⟩)) (bs ++ [.int .u8 c]) w'∧Below B w w'):=by
 obtain ⟨i0,hi,hz0,hz1,hz2⟩:=info_parts infoByte_
 go_enter Try.func89,Try.ntmps89
 go_wp2_with (go_at_call 116;refine (copyCheck_calls B b bs _ h).mono ?_)
 rintro e w1 ⟨rfl,h1,hb1⟩
 obtain ⟨hB,v,hbk,hown,hne⟩:=h1
 have c0:w1.cell? ⟨b,0,none⟩=some (.pointer (some ⟨b,0,none⟩)):=by rw [Lib.cell_of_heap hbk];rfl
 have c1:w1.cell? ⟨b,1,none⟩=some v:=by rw [Lib.cell_of_heap hbk];rfl
 go_wp2_with (at_builtin;refine wpList_append_own _ rfl _ _ 47 rfl B 5 i0 (.int .u8 0) 1 1 Try.underlying47 hi hz0 hz1 hz2 rfl (by decide) _ _ _ rfl (hown.alloc _) ⟨w1.heap.size,0,none⟩ 1 1 [.int .u8 c] rfl rfl ?c1 ?c2 ?c3 ?c4 ?c5 ?_)
 case c1 =>
  intro j u hj
  match j,hj with
  | 0,hj=>simp at hj;subst hj;simp [Addr.add]
 case c2=>intro u hu;simp at hu;subst hu;rfl
 case c3=>unfold maxLen;omega
 case c4=>omega
 case c5=>have:=hb1.size;simp;omega
 intro v' w2 hown' hgrow _
 have hlt:b < w1.heap.size:=by
  rcases Nat.lt_or_ge b w1.heap.size with h'|h'
  ·
   exact h'
  ·
   simp [Array.getElem?_eq_none h'] at hbk
 have hb2:w2.heap[b]?=some (.cells #[.pointer (some ⟨b,0,none⟩),v] 121 (0,0)):=by
  rw [hgrow.block b (by simp;omega) (fun e=>hne e.symm),Lib.alloc_old w1 _ b hlt]
  exact hbk
 have d0:w2.cell? ⟨b,0,none⟩=some (.pointer (some ⟨b,0,none⟩)):=by rw [Lib.cell_of_heap hb2];rfl
 have d1:w2.cell? ⟨b,1,none⟩=some v:=by rw [Lib.cell_of_heap hb2];rfl
 have f1:w2.frozen? ⟨b,1,none⟩=false:=Lib.frozen_of_heap hb2 1
 obtain ⟨g,cap,rfl⟩:∃ g cap,v'=.slice (some ⟨g,0,none⟩) (bs.length+1) cap:=by
  rcases hown'.2 with ⟨_,h0⟩|⟨g,cap,cur,hv,_⟩
  ·
   omega
  ·
   exact ⟨g,cap,hv⟩
 go_wp2
 go_ret
 refine ⟨rfl,?_,?_⟩
 ·
  exact Lib.BuilderAt.put (T:=121) (e:=5) hB hb2 (bs':=bs ++ [.int .u8 c]) (by simpa using hown') (by decide)
 ·
  exact ((hb1.alloc (by have:=hb1.size;omega) _).grown hgrow (by have:=hb1.size;simp;omega) (fun k hk=>(hown.lt k hk).1)).setCell (p:=⟨b,1,none⟩) hB _
def hexDigits:ByteArray:=⟨#[48,49,50,51,52,53,54,55,56,57,97,98,99,100,101,102]⟩
def hexTwo (c:Int):List Int:=[bt hexDigits (c / 16),bt hexDigits (c % 16)]
def hexL (l:List Int):List Int:=l.flatMap hexTwo
def sha_Hex.f (a0:ByteArray):Option ByteArray:=if a0.size≤70368744177664 then some (strOfNums (hexL (bytesOf a0))) else none
theorem hexL_step (l:List Int) (i:Nat) (h:i < l.length):hexL (l.take (i+1))=hexL (l.take i) ++ hexTwo (l.getD i 0):=by
 unfold hexL
 rw [List.take_succ_eq_append_getElem h,List.flatMap_append,List.getD_eq_getElem?_getD,List.getElem?_eq_getElem h]
 simp
theorem hexL_length (l:List Int):(hexL l).length=2 * l.length:=by
 induction l with
 | nil=>rfl
 | cons a l ih=>rw [hexL,List.flatMap_cons,List.length_append,← hexL,ih];simp [hexTwo];omega
theorem nums_bytes (xs:List Int) (h:∀ x∈xs,0≤x∧x≤255):nums .u8 xs=Lib.byteCells (xs.map fun n=>UInt8.ofNat n.toNat):=by
 unfold nums Lib.byteCells
 rw [List.map_map]
 refine List.map_congr_left fun x hx=>?_
 have:=h x hx
 have e:(UInt8.ofNat x.toNat).toNat=x.toNat:=UInt8.toNat_ofNat_of_lt' (by show x.toNat < 256;omega)
 simp only [Function.comp,e]
 congr 1
 omega
theorem hexL_range (l:List Int):∀ x∈hexL l,0≤x∧x≤255:=by
 intro x hx
 obtain ⟨c,_,hc⟩:=List.mem_flatMap.1 hx
 simp only [hexTwo,List.mem_cons,List.not_mem_nil,or_false] at hc
 rcases hc with rfl|rfl
 ·
  exact bt_range _ _
 ·
  exact bt_range _ _
set_option maxHeartbeats 800000 in
set_option maxRecDepth 100000 in
theorem sha_Hex.calls (a0:ByteArray) (r:ByteArray) (w:World) (h:sha_Hex.f a0=some r) :
  Calls Try.prog 42 #[.string a0] w fun e w'=>e=.returned (.string r)∧Below w.heap.size w w':=by
 unfold sha_Hex.f at h
 by_cases hs:a0.size≤70368744177664
 ·
  rw [if_pos hs] at h
  have hr:=(Option.some.inj h).symm
  clear h
  have HR:=Aside0.mk hr
  clear hr
  go_enter Try.func42,Try.ntmps42
  go_wp2
  go_loopg [4,7] (a0.size+1) (fun gg _ v7 wr=>∃ i:Nat,i+gg=a0.size+1∧v7=.int .i64 (i:Int)∧Aside0 (Lib.IsBuilder 121 5 w.heap.size w.heap.size (nums .u8 (hexL ((bytesOf a0).take i))) wr)∧Aside0 (Below w.heap.size w wr))
  case atStart=>exact ⟨0,by omega,rfl,⟨.inl ⟨Nat.le_refl _,_,heap_alloc_new _ _,World.ownsRow_nil ..,by simp [Value.ownBlock]⟩⟩,⟨below_alloc (Below.refl _ _) _⟩⟩
  case round =>
   obtain ⟨i,hi,rfl,HO,HB⟩:=hrel
   by_cases hlt:i < a0.size
   ·
    obtain ⟨gg,rfl⟩:∃ m,gk=m+1:=⟨gk - 1,by omega⟩
    have hltz:(i:Int) < (a0.size:Int):=by omega
    have p0:0≤(i:Int):=by omega
    have hx:((a0[i]'hlt).toNat:Int)=bt a0 (i:Int):=bt_at a0 (i:Int) hlt
    have hst:=hexL_step (bytesOf a0) i (by rw [bytesOf_length];exact hlt)
    rw [show (bytesOf a0).getD i 0=bt a0 (i:Int) by rw [← rd_bytesOf];simp [rd]] at hst
    have hlen:(nums .u8 (hexL ((bytesOf a0).take i))).length+2≤140737488355328:=by
     rw [nums_length,hexL_length,List.length_take]
     omega
    have hrg:=bt_range a0 (i:Int)
    generalize bt a0 (i:Int)=c at hx hst hrg
    generalize hbs:hexL ((bytesOf a0).take i)=bs at HO hst hlen
    have HST:=Aside0.mk hst
    have HLEN:=Aside0.mk hlen
    clear hst hlen hbs
    obtain ⟨j1,hj1⟩:∃ j:Int,c / 16=j:=⟨_,rfl⟩
    obtain ⟨j2,hj2⟩:∃ j:Int,Go.bits .and .u8 c 15=j:=⟨_,rfl⟩
    have e2:c % 16=j2:=by rw [← hj2,u8_and15 c hrg.1 (by omega)]
    have p1:0≤j1:=by omega
    have q1:j1 < 16:=by omega
    have p2:0≤j2:=by omega
    have q2:j2 < 16:=by omega
    have hx1:=bt_at (⟨#[48,49,50,51,52,53,54,55,56,57,97,98,99,100,101,102]⟩:ByteArray) j1
    have hx2:=bt_at (⟨#[48,49,50,51,52,53,54,55,56,57,97,98,99,100,101,102]⟩:ByteArray) j2
    have E1:=Aside0.mk hj1
    have E2:=Aside0.mk e2
    clear e2
    obtain ⟨d1,hd1⟩:∃ j:Int,bt (⟨#[48,49,50,51,52,53,54,55,56,57,97,98,99,100,101,102]⟩:ByteArray) j1=j:=⟨_,rfl⟩
    obtain ⟨d2,hd2⟩:∃ j:Int,bt (⟨#[48,49,50,51,52,53,54,55,56,57,97,98,99,100,101,102]⟩:ByteArray) j2=j:=⟨_,rfl⟩
    rw [hd1] at hx1
    rw [hd2] at hx2
    have D1:=Aside0.mk hd1
    have D2:=Aside0.mk hd2
    clear hd1 hd2 hrg
    go_wp2_with (first
     | (go_at_call 89;(with_reducible refine (writeByte_calls w.heap.size w.heap.size (nums .u8 bs) d1 _ HO.out (by have:=HLEN.out;omega) HB.out.size).mono ?_);rintro e w1 ⟨rfl,hb1,hl1⟩;have HO1:=Aside0.mk (show Lib.IsBuilder 121 5 w.heap.size w.heap.size _ _ from .inr hb1);have HB1:=Aside0.mk (HB.out.trans (hl1.mono (Nat.le_refl _)));clear HO HB hb1 hl1)
     | (go_at_call 89;(with_reducible refine (writeByte_calls w.heap.size w.heap.size (nums .u8 bs ++ [.int .u8 d1]) d2 _ HO1.out (by have:=HLEN.out;simp only [List.length_append,List.length_cons,List.length_nil];omega) HB1.out.size).mono ?_);rintro e w2 ⟨rfl,hb2,hl2⟩;have HO2:=Aside0.mk hb2;have HB2:=Aside0.mk (HB1.out.trans (hl2.mono (Nat.le_refl _)));clear HO1 HB1 hb2 hl2))
    go_roundg gg
    case measure=>omega
    case rel=>exact ⟨i+1,by omega,by go_num,⟨.inr (by
     rw [HST.out,nums_append]
     have e:nums .u8 (hexTwo c)=[.int .u8 d1,.int .u8 d2]:=by
      unfold hexTwo hexDigits
      rw [E1.out,E2.out,D1.out,D2.out]
      rfl
     rw [e]
     have:=HO2.out
     rw [List.append_assoc] at this
     exact this)⟩,HB2⟩
   ·
    have hltz:¬ (i:Int) < (a0.size:Int):=by omega
    have hall:(bytesOf a0).take i=bytesOf a0:=List.take_of_length_le (by rw [bytesOf_length];omega)
    rw [hall,nums_bytes _ (hexL_range _)] at HO
    clear hall
    go_wp2_with (go_at_call 90;refine (builderString_calls w.heap.size w.heap.size _ _ HO.out HB.out.size).mono ?_;rintro e w1 ⟨rfl,hb1⟩)
    go_ret
    exact ⟨by rw [HR.out];rfl,HB.out.trans (hb1.mono (Nat.le_refl _))⟩
 ·
  rw [if_neg hs] at h
  exact absurd h (by simp)
end Go.Proofs.Ytelcaepenfjloaa.Print
/-! #### Pr25 -/
namespace Go.Proofs.Ytelcaepenfjloaa.Print
open Go.RowKit Go.Proofs.YtelcaepenfjloaaW.PrintWords Go.Proofs.YtelcaepenfjloaaW.PrintLast Go.Proofs.YtelcaepenfjloaaW.PrintMore
attribute [local go_sem] max2_int min2_int max_two min_two max_three min_three max_four min_four
set_option linter.unusedVariables false
set_option linter.unusedSimpArgs false
/-! ### mosaiclaw01_awake: function 25 -/
def mosaiclaw01_awake.f  : Option (Bool):=(sha_Sum.f (⟨#[97,98,99]⟩:ByteArray)).bind fun t115=>((sha_Hex.f t115).bind fun t116=>(if t116.toList=([98,97,55,56,49,54,98,102,56,102,48,49,99,102,101,97,52,49,52,49,52,48,100,101,53,100,97,101,50,50,50,51,98,48,48,51,54,49,97,51,57,54,49,55,55,97,57,99,98,52,49,48,102,102,54,49,102,50,48,48,49,53,97,100]:List UInt8) then ((sha_Sum.f (⟨#[]⟩:ByteArray)).bind fun t117=>((sha_Hex.f t117).bind fun t118=>(some (t118.toList == ([101,51,98,48,99,52,52,50,57,56,102,99,49,99,49,52,57,97,102,98,102,52,99,56,57,57,54,102,98,57,50,52,50,55,97,101,52,49,101,52,54,52,57,98,57,51,52,99,97,52,57,53,57,57,49,98,55,56,53,50,98,56,53,53]:List UInt8))))) else (some false)))
set_option maxHeartbeats 8000000 in
set_option maxRecDepth 100000 in
theorem mosaiclaw01_awake.calls  (r:Bool) (w:World) (h:mosaiclaw01_awake.f  = some r) :
  Calls Try.prog 25 #[] w fun e w'=>e=.returned (.bool r)∧Below w.heap.size w w':=by
 have HB:=Aside0.mk (Below.refl w.heap.size w)
 have H:((sha_Sum.f (⟨#[97,98,99]⟩:ByteArray)).bind fun t115=>((sha_Hex.f t115).bind fun t116=>(if t116.toList=([98,97,55,56,49,54,98,102,56,102,48,49,99,102,101,97,52,49,52,49,52,48,100,101,53,100,97,101,50,50,50,51,98,48,48,51,54,49,97,51,57,54,49,55,55,97,57,99,98,52,49,48,102,102,54,49,102,50,48,48,49,53,97,100]:List UInt8) then ((sha_Sum.f (⟨#[]⟩:ByteArray)).bind fun t117=>((sha_Hex.f t117).bind fun t118=>(some (t118.toList == ([101,51,98,48,99,52,52,50,57,56,102,99,49,99,49,52,57,97,102,98,102,52,99,56,57,57,54,102,98,57,50,52,50,55,97,101,52,49,101,52,54,52,57,98,57,51,52,99,97,52,57,53,57,57,49,98,55,56,53,50,98,56,53,53]:List UInt8))))) else (some false))))=some r:=h
 clear h
 replace H:=Option.bind_eq_some_iff.mp H
 obtain ⟨t115,A10,H⟩:=H
 replace H:((sha_Hex.f t115).bind fun t116=>(if t116.toList=([98,97,55,56,49,54,98,102,56,102,48,49,99,102,101,97,52,49,52,49,52,48,100,101,53,100,97,101,50,50,50,51,98,48,48,51,54,49,97,51,57,54,49,55,55,97,57,99,98,52,49,48,102,102,54,49,102,50,48,48,49,53,97,100]:List UInt8) then ((sha_Sum.f (⟨#[]⟩:ByteArray)).bind fun t117=>((sha_Hex.f t117).bind fun t118=>(some (t118.toList == ([101,51,98,48,99,52,52,50,57,56,102,99,49,99,49,52,57,97,102,98,102,52,99,56,57,57,54,102,98,57,50,52,50,55,97,101,52,49,101,52,54,52,57,98,57,51,52,99,97,52,57,53,57,57,49,98,55,56,53,50,98,56,53,53]:List UInt8))))) else (some false)))=some r:=H
 have A1:=Aside0.mk A10
 clear A10
 replace H:=Option.bind_eq_some_iff.mp H
 obtain ⟨t116,A20,H⟩:=H
 replace H:(if t116.toList=([98,97,55,56,49,54,98,102,56,102,48,49,99,102,101,97,52,49,52,49,52,48,100,101,53,100,97,101,50,50,50,51,98,48,48,51,54,49,97,51,57,54,49,55,55,97,57,99,98,52,49,48,102,102,54,49,102,50,48,48,49,53,97,100]:List UInt8) then ((sha_Sum.f (⟨#[]⟩:ByteArray)).bind fun t117=>((sha_Hex.f t117).bind fun t118=>(some (t118.toList == ([101,51,98,48,99,52,52,50,57,56,102,99,49,99,49,52,57,97,102,98,102,52,99,56,57,57,54,102,98,57,50,52,50,55,97,101,52,49,101,52,54,52,57,98,57,51,52,99,97,52,57,53,57,57,49,98,55,56,53,50,98,56,53,53]:List UInt8))))) else (some false))=some r:=H
 have A2:=Aside0.mk A20
 clear A20
 by_cases c3:t116.toList=([98,97,55,56,49,54,98,102,56,102,48,49,99,102,101,97,52,49,52,49,52,48,100,101,53,100,97,101,50,50,50,51,98,48,48,51,54,49,97,51,57,54,49,55,55,97,57,99,98,52,49,48,102,102,54,49,102,50,48,48,49,53,97,100]:List UInt8)
 ·
  rw [if_pos c3] at H
  have c3b0:(t116.toList == ([98,97,55,56,49,54,98,102,56,102,48,49,99,102,101,97,52,49,52,49,52,48,100,101,53,100,97,101,50,50,50,51,98,48,48,51,54,49,97,51,57,54,49,55,55,97,57,99,98,52,49,48,102,102,54,49,102,50,48,48,49,53,97,100]:List UInt8))=true:=beq_iff_eq.mpr c3
  have c3b1:(t116.toList != ([98,97,55,56,49,54,98,102,56,102,48,49,99,102,101,97,52,49,52,49,52,48,100,101,53,100,97,101,50,50,50,51,98,48,48,51,54,49,97,51,57,54,49,55,55,97,57,99,98,52,49,48,102,102,54,49,102,50,48,48,49,53,97,100]:List UInt8))=false:=bne_eq_false_iff_eq.mpr c3
  clear c3
  replace H:=Option.bind_eq_some_iff.mp H
  obtain ⟨t117,A40,H⟩:=H
  replace H:((sha_Hex.f t117).bind fun t118=>(some (t118.toList == ([101,51,98,48,99,52,52,50,57,56,102,99,49,99,49,52,57,97,102,98,102,52,99,56,57,57,54,102,98,57,50,52,50,55,97,101,52,49,101,52,54,52,57,98,57,51,52,99,97,52,57,53,57,57,49,98,55,56,53,50,98,56,53,53]:List UInt8))))=some r:=H
  have A4:=Aside0.mk A40
  clear A40
  replace H:=Option.bind_eq_some_iff.mp H
  obtain ⟨t118,A50,H⟩:=H
  replace H:(some (t118.toList == ([101,51,98,48,99,52,52,50,57,56,102,99,49,99,49,52,57,97,102,98,102,52,99,56,57,57,54,102,98,57,50,52,50,55,97,101,52,49,101,52,54,52,57,98,57,51,52,99,97,52,57,53,57,57,49,98,55,56,53,50,98,56,53,53]:List UInt8)))=some r:=H
  have A5:=Aside0.mk A50
  clear A50
  obtain rfl:=Option.some.inj H
  go_enter Try.func25,Try.ntmps25
  go_wp2_with (first|((with_reducible refine gate_callee (f:=26) rfl ?_);refine goesL_ (some 1) rfl rfl Try.func26 (by kernel_rfl) rfl #[.string (⟨#[97,98,99]⟩:ByteArray)] rfl (by (try simp only [List.map_toArray,List.map_cons,List.map_nil]);first|done|rfl|(simp only [List.length_drop,List.length_take];rfl)) ?_;(with_reducible refine (sha_Sum.calls (⟨#[97,98,99]⟩:ByteArray) t115 _ A1.out).mono ?_);rintro e w6 ⟨rfl,hb⟩;refine ⟨_,rfl,?_⟩;have n0_:=Aside0.mk (below_step (by repeat (first|(with_reducible first|exact HB.out|apply below_alloc|apply pw_below_drewN|apply below_drew1)|exact HB.out)) hb);clear HB;have HB:=n0_;clear n0_;(try clear hb);(try clear hb2);(try clear hk);(try clear hi))|((with_reducible refine gate_callee (f:=42) rfl ?_);refine goesL_ (some 2) rfl rfl Try.func42 (by kernel_rfl) rfl #[.string t115] rfl (by (try simp only [List.map_toArray,List.map_cons,List.map_nil]);first|done|rfl|(simp only [List.length_drop,List.length_take];rfl)) ?_;(with_reducible refine (sha_Hex.calls t115 t116 _ A2.out).mono ?_);rintro e w7 ⟨rfl,hb⟩;refine ⟨_,rfl,?_⟩;have n0_:=Aside0.mk (below_step (by repeat (first|(with_reducible first|exact HB.out|apply below_alloc|apply pw_below_drewN|apply below_drew1)|exact HB.out)) hb);clear HB;have HB:=n0_;clear n0_;(try clear hb);(try clear hb2);(try clear hk);(try clear hi))|(go_at_call 26;(with_reducible refine (sha_Sum.calls (⟨#[]⟩:ByteArray) t117 _ A4.out).mono ?_);rintro e w8 ⟨rfl,hb⟩;have n0_:=Aside0.mk (below_step (by repeat (first|(with_reducible first|exact HB.out|apply below_alloc|apply pw_below_drewN|apply below_drew1)|exact HB.out)) hb);clear HB;have HB:=n0_;clear n0_;(try clear hb);(try clear hb2);(try clear hk);(try clear hi))|(go_at_call 42;(with_reducible refine (sha_Hex.calls t117 t118 _ A5.out).mono ?_);rintro e w9 ⟨rfl,hb⟩;have n0_:=Aside0.mk (below_step (by repeat (first|(with_reducible first|exact HB.out|apply below_alloc|apply pw_below_drewN|apply below_drew1)|exact HB.out)) hb);clear HB;have HB:=n0_;clear n0_;(try clear hb);(try clear hb2);(try clear hk);(try clear hi)))
  go_ret
  exact ⟨by first|rfl|(simp [errW_none,errW_some] <;> rfl)|(simp [*,errW_none,errW_some] <;> rfl),by repeat (first|(with_reducible first|exact HB.out|apply below_alloc|apply pw_below_drewN|apply below_drew1)|exact HB.out)⟩
 ·
  rw [if_neg c3] at H
  have c3b0:(t116.toList == ([98,97,55,56,49,54,98,102,56,102,48,49,99,102,101,97,52,49,52,49,52,48,100,101,53,100,97,101,50,50,50,51,98,48,48,51,54,49,97,51,57,54,49,55,55,97,57,99,98,52,49,48,102,102,54,49,102,50,48,48,49,53,97,100]:List UInt8))=false:=beq_eq_false_iff_ne.mpr c3
  have c3b1:(t116.toList != ([98,97,55,56,49,54,98,102,56,102,48,49,99,102,101,97,52,49,52,49,52,48,100,101,53,100,97,101,50,50,50,51,98,48,48,51,54,49,97,51,57,54,49,55,55,97,57,99,98,52,49,48,102,102,54,49,102,50,48,48,49,53,97,100]:List UInt8))=true:=bne_iff_ne.mpr c3
  obtain rfl:=Option.some.inj H
  go_enter Try.func25,Try.ntmps25
  go_wp2_with (first|((with_reducible refine gate_callee (f:=26) rfl ?_);refine goesL_ (some 1) rfl rfl Try.func26 (by kernel_rfl) rfl #[.string (⟨#[97,98,99]⟩:ByteArray)] rfl (by (try simp only [List.map_toArray,List.map_cons,List.map_nil]);first|done|rfl|(simp only [List.length_drop,List.length_take];rfl)) ?_;(with_reducible refine (sha_Sum.calls (⟨#[97,98,99]⟩:ByteArray) t115 _ A1.out).mono ?_);rintro e w10 ⟨rfl,hb⟩;refine ⟨_,rfl,?_⟩;have n0_:=Aside0.mk (below_step (by repeat (first|(with_reducible first|exact HB.out|apply below_alloc|apply pw_below_drewN|apply below_drew1)|exact HB.out)) hb);clear HB;have HB:=n0_;clear n0_;(try clear hb);(try clear hb2);(try clear hk);(try clear hi))|((with_reducible refine gate_callee (f:=42) rfl ?_);refine goesL_ (some 2) rfl rfl Try.func42 (by kernel_rfl) rfl #[.string t115] rfl (by (try simp only [List.map_toArray,List.map_cons,List.map_nil]);first|done|rfl|(simp only [List.length_drop,List.length_take];rfl)) ?_;(with_reducible refine (sha_Hex.calls t115 t116 _ A2.out).mono ?_);rintro e w11 ⟨rfl,hb⟩;refine ⟨_,rfl,?_⟩;have n0_:=Aside0.mk (below_step (by repeat (first|(with_reducible first|exact HB.out|apply below_alloc|apply pw_below_drewN|apply below_drew1)|exact HB.out)) hb);clear HB;have HB:=n0_;clear n0_;(try clear hb);(try clear hb2);(try clear hk);(try clear hi)))
  go_ret
  exact ⟨by first|rfl|(simp [errW_none,errW_some] <;> rfl)|(simp [*,errW_none,errW_some] <;> rfl),by repeat (first|(with_reducible first|exact HB.out|apply below_alloc|apply pw_below_drewN|apply below_drew1)|exact HB.out)⟩
end Go.Proofs.Ytelcaepenfjloaa.Print
/-! #### PureW -/
/- Words for pure statements: rounds that suffice (Ev), tests, numbers, lists. -/
namespace Go.Proofs.YtelcaepenfjloaaW.PrintWords
theorem Ev.pos {α:Type} {c:Prop} [Decidable c] {f g:Nat→Option α} {r:α} (h:c) (k:Ev f r):Ev (fun n=>if c then f n else g n) r:=by
 simpa only [if_pos h] using k
theorem Ev.neg {α:Type} {c:Prop} [Decidable c] {f g:Nat→Option α} {r:α} (h:¬ c) (k:Ev g r):Ev (fun n=>if c then f n else g n) r:=by
 simpa only [if_neg h] using k
theorem Ev.some_ {α:Type} {a r:α} (h:a=r):Ev (fun _=>some a) r:=h ▸ Ev.now a
theorem Ev.some_bind {α β:Type} {a:α} {f:Nat→α→Option β} {r:β} (k:Ev (fun n=>f n a) r):Ev (fun n=>(some a).bind (f n)) r:=k
theorem Ev.to {α:Type} {g:Nat→Option α} {r r':α} (h:Ev g r) (e:r=r'):Ev g r':=e ▸ h
/-- A call that has no rounds. -/
theorem Ev.call {α β:Type} {o:Option α} {a:α} {f:Nat→α→Option β} {r:β} (h:o=some a) (k:Ev (fun n=>f n a) r):Ev (fun n=>o.bind (f n)) r:=by
 subst h
 exact k
theorem Ev.succ {α:Type} {g:Nat→Option α} {r:α} (k:Ev (fun n=>g (n+1)) r):Ev g r:=Ev.step (fun _=>rfl) k
end Go.Proofs.YtelcaepenfjloaaW.PrintWords
namespace Go.Proofs.Ytelcaepenfjloaa.Pure
open Go.RowKit Go.Proofs.YtelcaepenfjloaaW.PrintWords
set_option linter.unusedVariables false
theorem wrap_of {x:Int} (h0:-9223372036854775808≤x) (h1:x≤9223372036854775807):wrap64 x=x:=by unfold wrap64;omega
theorem wrap_succ (i:Nat) (h:i < 9223372036854775807):wrap64 ((i:Int)+1)=((i+1:Nat):Int):=by unfold wrap64;omega
theorem rd_nat (l:List Int) (i:Nat):rd l (i:Int)=l.getD i 0:=by simp [rd]
theorem rd_lt (l:List Int) (i:Nat) (h:i < l.length):rd l (i:Int)=l[i]:=by simp [rd,List.getD_eq_getElem?_getD,h]
end Go.Proofs.Ytelcaepenfjloaa.Pure
