/- The proof of the statement PeersPlays of the seat, part 4 of 6: the functions that it reaches, as plain functions, with the walks that show it, and what they come to; the last part ends in the row. No condition beyond the statement's own. -/
import Derived.Test.YtpejjpecdkbleaaBPeersPlays1
import Derived.Test.YtpejjpecdkbleaaBPeersPlays2
/-! #### Pr75 -/
namespace Go.Proofs.Ytpejjpecdkbleaa.Print
open Go.RowKit Go.Proofs.YtpejjpecdkbleaaW.PrintWords Go.Proofs.YtpejjpecdkbleaaW.PrintLast Go.Proofs.YtpejjpecdkbleaaW.PrintMore
attribute [local go_sem] max2_int min2_int max_two min_two max_three min_three max_four min_four
set_option linter.unusedVariables false
set_option linter.unusedSimpArgs false
/-! ### mosaicref18_Table_Set: function 75 -/
mutual
def mosaicref18_Table_Set.j0:Nat→Int→Int→Int→ByteArray→Bool→Int→Int→List (S56)→List Int→Option (Int×Int×(List (S56))×List Int×Int)
 | 0,_,_,_,_,_,_,_,_,_=>none
 | k+1,x1,x2,x3,x4,x41,x2000,x2001,x2002,x2003=>if x41=true then (some (x2000,x2001,x2002,x2003,1)) else ((mosaicref18_Table_Find.f k x2000 x2001 x2002 x2003 x1).bind fun t4=>(if t4 < 0 then (some (x2000,x2001,x2002,x2003,4)) else (if 0≤t4 then (if t4 < (x2002.length:Int) then (if x2=0 then (mosaicref18_Table_Set.j1 k x2 x3 x4 (decide (x3 > ((rd_T56 x2002 t4).f6))) x2000 x2001 x2002 x2003 ((rd_T56 x2002 t4).f0) ((rd_T56 x2002 t4).f1.f0) ((rd_T56 x2002 t4).f1.f1) ((rd_T56 x2002 t4).f2) ((rd_T56 x2002 t4).f3) ((rd_T56 x2002 t4).f4) ((rd_T56 x2002 t4).f5) ((rd_T56 x2002 t4).f6) ((rd_T56 x2002 t4).f7) ((rd_T56 x2002 t4).f8)) else (mosaicref18_Table_Set.j1 k x2 x3 x4 false x2000 x2001 x2002 x2003 ((rd_T56 x2002 t4).f0) ((rd_T56 x2002 t4).f1.f0) ((rd_T56 x2002 t4).f1.f1) ((rd_T56 x2002 t4).f2) ((rd_T56 x2002 t4).f3) ((rd_T56 x2002 t4).f4) ((rd_T56 x2002 t4).f5) ((rd_T56 x2002 t4).f6) ((rd_T56 x2002 t4).f7) ((rd_T56 x2002 t4).f8))) else (none)) else (none))))
def mosaicref18_Table_Set.j1:Nat→Int→Int→ByteArray→Bool→Int→Int→List (S56)→List Int→Int→Int→Int→ByteArray→Bool→Bool→Bool→Int→Int→Int→Option (Int×Int×(List (S56))×List Int×Int)
 | 0,_,_,_,_,_,_,_,_,_,_,_,_,_,_,_,_,_,_=>none
 | k+1,x2,x3,x4,x61,x2000,x2001,x2002,x2003,x7000,x7001,x7002,x7003,x7004,x7005,x7006,x7007,x7008,x7009=>if x61=true then (mosaicref18_Table_Set.j2 k x2 x3 x4 x2000 x2001 x2002 x2003 x7000 x7001 x7002 x7003 x7004 x7005 x7006 x3 x7008 x7009) else (mosaicref18_Table_Set.j2 k x2 x3 x4 x2000 x2001 x2002 x2003 x7000 x7001 x7002 x7003 x7004 x7005 x7006 x7007 x7008 x7009)
def mosaicref18_Table_Set.j2:Nat→Int→Int→ByteArray→Int→Int→List (S56)→List Int→Int→Int→Int→ByteArray→Bool→Bool→Bool→Int→Int→Int→Option (Int×Int×(List (S56))×List Int×Int)
 | 0,_,_,_,_,_,_,_,_,_,_,_,_,_,_,_,_,_=>none
 | k+1,x2,x3,x4,x2000,x2001,x2002,x2003,x7000,x7001,x7002,x7003,x7004,x7005,x7006,x7007,x7008,x7009=>if x2=1 then (mosaicref18_Table_Set.j3 k x2 x3 x2000 x2001 x2002 x2003 x7000 x7001 x7002 x4 x7004 x7005 x7006 x7007 x7008 x7009) else (mosaicref18_Table_Set.j3 k x2 x3 x2000 x2001 x2002 x2003 x7000 x7001 x7002 x7003 x7004 x7005 x7006 x7007 x7008 x7009)
def mosaicref18_Table_Set.j3:Nat→Int→Int→Int→Int→List (S56)→List Int→Int→Int→Int→ByteArray→Bool→Bool→Bool→Int→Int→Int→Option (Int×Int×(List (S56))×List Int×Int)
 | 0,_,_,_,_,_,_,_,_,_,_,_,_,_,_,_,_=>none
 | k+1,x2,x3,x2000,x2001,x2002,x2003,x7000,x7001,x7002,x7003,x7004,x7005,x7006,x7007,x7008,x7009=>if x2=2 then (mosaicref18_Table_Set.j4 k x2 x3 x2000 x2001 x2002 x2003 x7000 x7001 x7002 x7003 (x3 == 1) x7005 x7006 x7007 x7008 x7009) else (mosaicref18_Table_Set.j4 k x2 x3 x2000 x2001 x2002 x2003 x7000 x7001 x7002 x7003 x7004 x7005 x7006 x7007 x7008 x7009)
def mosaicref18_Table_Set.j4:Nat→Int→Int→Int→Int→List (S56)→List Int→Int→Int→Int→ByteArray→Bool→Bool→Bool→Int→Int→Int→Option (Int×Int×(List (S56))×List Int×Int)
 | 0,_,_,_,_,_,_,_,_,_,_,_,_,_,_,_,_=>none
 | k+1,x2,x3,x2000,x2001,x2002,x2003,x7000,x7001,x7002,x7003,x7004,x7005,x7006,x7007,x7008,x7009=>if x2=3 then (mosaicref18_Table_Set.j5 k x2 x3 x2000 x2001 x2002 x2003 x7000 x7001 x7002 x7003 x7004 (x3 == 1) x7006 x7007 x7008 x7009) else (mosaicref18_Table_Set.j5 k x2 x3 x2000 x2001 x2002 x2003 x7000 x7001 x7002 x7003 x7004 x7005 x7006 x7007 x7008 x7009)
def mosaicref18_Table_Set.j5:Nat→Int→Int→Int→Int→List (S56)→List Int→Int→Int→Int→ByteArray→Bool→Bool→Bool→Int→Int→Int→Option (Int×Int×(List (S56))×List Int×Int)
 | 0,_,_,_,_,_,_,_,_,_,_,_,_,_,_,_,_=>none
 | k+1,x2,x3,x2000,x2001,x2002,x2003,x7000,x7001,x7002,x7003,x7004,x7005,x7006,x7007,x7008,x7009=>if x2=4 then (mosaicref18_Table_Set.j6 k x2 x3 x2000 x2001 x2002 x2003 x7000 x7001 x7002 x7003 x7004 x7005 (x3 == 1) x7007 x7008 x7009) else (mosaicref18_Table_Set.j6 k x2 x3 x2000 x2001 x2002 x2003 x7000 x7001 x7002 x7003 x7004 x7005 x7006 x7007 x7008 x7009)
def mosaicref18_Table_Set.j6:Nat→Int→Int→Int→Int→List (S56)→List Int→Int→Int→Int→ByteArray→Bool→Bool→Bool→Int→Int→Int→Option (Int×Int×(List (S56))×List Int×Int)
 | 0,_,_,_,_,_,_,_,_,_,_,_,_,_,_,_,_=>none
 | k+1,x2,x3,x2000,x2001,x2002,x2003,x7000,x7001,x7002,x7003,x7004,x7005,x7006,x7007,x7008,x7009=>if x2=5 then (if (wrap64 (x7008+x3)) > 1099511627776 then ((mosaicref18_Table_with.f k x2000 x2001 x2002 x2003 x7000 x7001 x7002 x7003 x7004 x7005 x7006 x7007 1099511627776 x7009).bind fun bt7=>(some (bt7.1,bt7.2.1,bt7.2.2.1,bt7.2.2.2,0))) else ((mosaicref18_Table_with.f k x2000 x2001 x2002 x2003 x7000 x7001 x7002 x7003 x7004 x7005 x7006 x7007 (wrap64 (x7008+x3)) x7009).bind fun bt15=>(some (bt15.1,bt15.2.1,bt15.2.2.1,bt15.2.2.2,0)))) else ((mosaicref18_Table_with.f k x2000 x2001 x2002 x2003 x7000 x7001 x7002 x7003 x7004 x7005 x7006 x7007 x7008 x7009).bind fun bt23=>(some (bt23.1,bt23.2.1,bt23.2.2.1,bt23.2.2.2,0)))
end
def mosaicref18_Table_Set.f (k:Nat) (a0_0:Int) (a0_1:Int) (l0_2:List (S56)) (l0_3:List Int) (a1:Int) (a2:Int) (a3:Int) (a4:ByteArray):Option (Int×Int×(List (S56))×List Int×Int):=if a2=0 then ((mosaicref18_Tick.f a3).bind fun t3=>(if t3=true then (if a2=1 then (if (a4.size:Int) > 20 then (mosaicref18_Table_Set.j0 k a1 a2 a3 a4 true a0_0 a0_1 l0_2 l0_3) else (if a2=5 then (if a3 < 0 then (mosaicref18_Table_Set.j0 k a1 a2 a3 a4 true a0_0 a0_1 l0_2 l0_3) else (mosaicref18_Table_Set.j0 k a1 a2 a3 a4 (decide (a3 > 1099511627776)) a0_0 a0_1 l0_2 l0_3)) else (mosaicref18_Table_Set.j0 k a1 a2 a3 a4 false a0_0 a0_1 l0_2 l0_3))) else (if a2=5 then (if a3 < 0 then (mosaicref18_Table_Set.j0 k a1 a2 a3 a4 true a0_0 a0_1 l0_2 l0_3) else (mosaicref18_Table_Set.j0 k a1 a2 a3 a4 (decide (a3 > 1099511627776)) a0_0 a0_1 l0_2 l0_3)) else (mosaicref18_Table_Set.j0 k a1 a2 a3 a4 false a0_0 a0_1 l0_2 l0_3))) else (mosaicref18_Table_Set.j0 k a1 a2 a3 a4 true a0_0 a0_1 l0_2 l0_3))) else (if a2=1 then (if (a4.size:Int) > 20 then (mosaicref18_Table_Set.j0 k a1 a2 a3 a4 true a0_0 a0_1 l0_2 l0_3) else (if a2=5 then (if a3 < 0 then (mosaicref18_Table_Set.j0 k a1 a2 a3 a4 true a0_0 a0_1 l0_2 l0_3) else (mosaicref18_Table_Set.j0 k a1 a2 a3 a4 (decide (a3 > 1099511627776)) a0_0 a0_1 l0_2 l0_3)) else (mosaicref18_Table_Set.j0 k a1 a2 a3 a4 false a0_0 a0_1 l0_2 l0_3))) else (if a2=5 then (if a3 < 0 then (mosaicref18_Table_Set.j0 k a1 a2 a3 a4 true a0_0 a0_1 l0_2 l0_3) else (mosaicref18_Table_Set.j0 k a1 a2 a3 a4 (decide (a3 > 1099511627776)) a0_0 a0_1 l0_2 l0_3)) else (mosaicref18_Table_Set.j0 k a1 a2 a3 a4 false a0_0 a0_1 l0_2 l0_3)))
theorem mosaicref18_Table_Set.mono_l:∀ k,(∀ y0 y1 y2 y3 y4 y5 y6 y7 y8,LeO (mosaicref18_Table_Set.j0 k y0 y1 y2 y3 y4 y5 y6 y7 y8) (mosaicref18_Table_Set.j0 (k+1) y0 y1 y2 y3 y4 y5 y6 y7 y8))∧(∀ y0 y1 y2 y3 y4 y5 y6 y7 y8 y9 y10 y11 y12 y13 y14 y15 y16 y17,LeO (mosaicref18_Table_Set.j1 k y0 y1 y2 y3 y4 y5 y6 y7 y8 y9 y10 y11 y12 y13 y14 y15 y16 y17) (mosaicref18_Table_Set.j1 (k+1) y0 y1 y2 y3 y4 y5 y6 y7 y8 y9 y10 y11 y12 y13 y14 y15 y16 y17))∧(∀ y0 y1 y2 y3 y4 y5 y6 y7 y8 y9 y10 y11 y12 y13 y14 y15 y16,LeO (mosaicref18_Table_Set.j2 k y0 y1 y2 y3 y4 y5 y6 y7 y8 y9 y10 y11 y12 y13 y14 y15 y16) (mosaicref18_Table_Set.j2 (k+1) y0 y1 y2 y3 y4 y5 y6 y7 y8 y9 y10 y11 y12 y13 y14 y15 y16))∧(∀ y0 y1 y2 y3 y4 y5 y6 y7 y8 y9 y10 y11 y12 y13 y14 y15,LeO (mosaicref18_Table_Set.j3 k y0 y1 y2 y3 y4 y5 y6 y7 y8 y9 y10 y11 y12 y13 y14 y15) (mosaicref18_Table_Set.j3 (k+1) y0 y1 y2 y3 y4 y5 y6 y7 y8 y9 y10 y11 y12 y13 y14 y15))∧(∀ y0 y1 y2 y3 y4 y5 y6 y7 y8 y9 y10 y11 y12 y13 y14 y15,LeO (mosaicref18_Table_Set.j4 k y0 y1 y2 y3 y4 y5 y6 y7 y8 y9 y10 y11 y12 y13 y14 y15) (mosaicref18_Table_Set.j4 (k+1) y0 y1 y2 y3 y4 y5 y6 y7 y8 y9 y10 y11 y12 y13 y14 y15))∧(∀ y0 y1 y2 y3 y4 y5 y6 y7 y8 y9 y10 y11 y12 y13 y14 y15,LeO (mosaicref18_Table_Set.j5 k y0 y1 y2 y3 y4 y5 y6 y7 y8 y9 y10 y11 y12 y13 y14 y15) (mosaicref18_Table_Set.j5 (k+1) y0 y1 y2 y3 y4 y5 y6 y7 y8 y9 y10 y11 y12 y13 y14 y15))∧(∀ y0 y1 y2 y3 y4 y5 y6 y7 y8 y9 y10 y11 y12 y13 y14 y15,LeO (mosaicref18_Table_Set.j6 k y0 y1 y2 y3 y4 y5 y6 y7 y8 y9 y10 y11 y12 y13 y14 y15) (mosaicref18_Table_Set.j6 (k+1) y0 y1 y2 y3 y4 y5 y6 y7 y8 y9 y10 y11 y12 y13 y14 y15))
 | 0=>⟨fun _ _ _ _ _ _ _ _ _ r h=>by simp [mosaicref18_Table_Set.j0] at h,fun _ _ _ _ _ _ _ _ _ _ _ _ _ _ _ _ _ _ r h=>by simp [mosaicref18_Table_Set.j1] at h,fun _ _ _ _ _ _ _ _ _ _ _ _ _ _ _ _ _ r h=>by simp [mosaicref18_Table_Set.j2] at h,fun _ _ _ _ _ _ _ _ _ _ _ _ _ _ _ _ r h=>by simp [mosaicref18_Table_Set.j3] at h,fun _ _ _ _ _ _ _ _ _ _ _ _ _ _ _ _ r h=>by simp [mosaicref18_Table_Set.j4] at h,fun _ _ _ _ _ _ _ _ _ _ _ _ _ _ _ _ r h=>by simp [mosaicref18_Table_Set.j5] at h,fun _ _ _ _ _ _ _ _ _ _ _ _ _ _ _ _ r h=>by simp [mosaicref18_Table_Set.j6] at h⟩
 | k+1=>by
  obtain ⟨ih0,ih1,ih2,ih3,ih4,ih5,ih6⟩:=mosaicref18_Table_Set.mono_l k
  refine ⟨?_,?_,?_,?_,?_,?_,?_⟩
  ·
   intro y0 y1 y2 y3 y4 y5 y6 y7 y8
   unfold mosaicref18_Table_Set.j0
   repeat' first
   | (with_reducible exact ih0 _ _ _ _ _ _ _ _ _)
   | (with_reducible exact ih1 _ _ _ _ _ _ _ _ _ _ _ _ _ _ _ _ _ _)
   | (with_reducible exact ih2 _ _ _ _ _ _ _ _ _ _ _ _ _ _ _ _ _)
   | (with_reducible exact ih3 _ _ _ _ _ _ _ _ _ _ _ _ _ _ _ _)
   | (with_reducible exact ih4 _ _ _ _ _ _ _ _ _ _ _ _ _ _ _ _)
   | (with_reducible exact ih5 _ _ _ _ _ _ _ _ _ _ _ _ _ _ _ _)
   | (with_reducible exact ih6 _ _ _ _ _ _ _ _ _ _ _ _ _ _ _ _)
   | (with_reducible exact mosaicref18_Table_Find.mono _ _ _ _ _ _)
   | (with_reducible exact mosaicref18_Table_with.mono _ _ _ _ _ _ _ _ _ _ _ _ _ _ _)
   | (with_reducible exact LeO.refl _)
   | (with_reducible exact LeO.none _)
   | (with_reducible refine LeO.ite ?_ ?_)
   | (with_reducible refine LeO.bind ?_ (fun _=>?_))
   | exact ih0 _ _ _ _ _ _ _ _ _
   | exact ih1 _ _ _ _ _ _ _ _ _ _ _ _ _ _ _ _ _ _
   | exact ih2 _ _ _ _ _ _ _ _ _ _ _ _ _ _ _ _ _
   | exact ih3 _ _ _ _ _ _ _ _ _ _ _ _ _ _ _ _
   | exact ih4 _ _ _ _ _ _ _ _ _ _ _ _ _ _ _ _
   | exact ih5 _ _ _ _ _ _ _ _ _ _ _ _ _ _ _ _
   | exact ih6 _ _ _ _ _ _ _ _ _ _ _ _ _ _ _ _
   | exact mosaicref18_Table_Find.mono _ _ _ _ _ _
   | exact mosaicref18_Table_with.mono _ _ _ _ _ _ _ _ _ _ _ _ _ _ _
   | exact LeO.none _
   | refine LeO.ite ?_ ?_
   | refine LeO.bind ?_ (fun _=>?_)
  ·
   intro y0 y1 y2 y3 y4 y5 y6 y7 y8 y9 y10 y11 y12 y13 y14 y15 y16 y17
   unfold mosaicref18_Table_Set.j1
   repeat' first
   | (with_reducible exact ih0 _ _ _ _ _ _ _ _ _)
   | (with_reducible exact ih1 _ _ _ _ _ _ _ _ _ _ _ _ _ _ _ _ _ _)
   | (with_reducible exact ih2 _ _ _ _ _ _ _ _ _ _ _ _ _ _ _ _ _)
   | (with_reducible exact ih3 _ _ _ _ _ _ _ _ _ _ _ _ _ _ _ _)
   | (with_reducible exact ih4 _ _ _ _ _ _ _ _ _ _ _ _ _ _ _ _)
   | (with_reducible exact ih5 _ _ _ _ _ _ _ _ _ _ _ _ _ _ _ _)
   | (with_reducible exact ih6 _ _ _ _ _ _ _ _ _ _ _ _ _ _ _ _)
   | (with_reducible exact mosaicref18_Table_Find.mono _ _ _ _ _ _)
   | (with_reducible exact mosaicref18_Table_with.mono _ _ _ _ _ _ _ _ _ _ _ _ _ _ _)
   | (with_reducible exact LeO.refl _)
   | (with_reducible exact LeO.none _)
   | (with_reducible refine LeO.ite ?_ ?_)
   | (with_reducible refine LeO.bind ?_ (fun _=>?_))
   | exact ih0 _ _ _ _ _ _ _ _ _
   | exact ih1 _ _ _ _ _ _ _ _ _ _ _ _ _ _ _ _ _ _
   | exact ih2 _ _ _ _ _ _ _ _ _ _ _ _ _ _ _ _ _
   | exact ih3 _ _ _ _ _ _ _ _ _ _ _ _ _ _ _ _
   | exact ih4 _ _ _ _ _ _ _ _ _ _ _ _ _ _ _ _
   | exact ih5 _ _ _ _ _ _ _ _ _ _ _ _ _ _ _ _
   | exact ih6 _ _ _ _ _ _ _ _ _ _ _ _ _ _ _ _
   | exact mosaicref18_Table_Find.mono _ _ _ _ _ _
   | exact mosaicref18_Table_with.mono _ _ _ _ _ _ _ _ _ _ _ _ _ _ _
   | exact LeO.none _
   | refine LeO.ite ?_ ?_
   | refine LeO.bind ?_ (fun _=>?_)
  ·
   intro y0 y1 y2 y3 y4 y5 y6 y7 y8 y9 y10 y11 y12 y13 y14 y15 y16
   unfold mosaicref18_Table_Set.j2
   repeat' first
   | (with_reducible exact ih0 _ _ _ _ _ _ _ _ _)
   | (with_reducible exact ih1 _ _ _ _ _ _ _ _ _ _ _ _ _ _ _ _ _ _)
   | (with_reducible exact ih2 _ _ _ _ _ _ _ _ _ _ _ _ _ _ _ _ _)
   | (with_reducible exact ih3 _ _ _ _ _ _ _ _ _ _ _ _ _ _ _ _)
   | (with_reducible exact ih4 _ _ _ _ _ _ _ _ _ _ _ _ _ _ _ _)
   | (with_reducible exact ih5 _ _ _ _ _ _ _ _ _ _ _ _ _ _ _ _)
   | (with_reducible exact ih6 _ _ _ _ _ _ _ _ _ _ _ _ _ _ _ _)
   | (with_reducible exact mosaicref18_Table_Find.mono _ _ _ _ _ _)
   | (with_reducible exact mosaicref18_Table_with.mono _ _ _ _ _ _ _ _ _ _ _ _ _ _ _)
   | (with_reducible exact LeO.refl _)
   | (with_reducible exact LeO.none _)
   | (with_reducible refine LeO.ite ?_ ?_)
   | (with_reducible refine LeO.bind ?_ (fun _=>?_))
   | exact ih0 _ _ _ _ _ _ _ _ _
   | exact ih1 _ _ _ _ _ _ _ _ _ _ _ _ _ _ _ _ _ _
   | exact ih2 _ _ _ _ _ _ _ _ _ _ _ _ _ _ _ _ _
   | exact ih3 _ _ _ _ _ _ _ _ _ _ _ _ _ _ _ _
   | exact ih4 _ _ _ _ _ _ _ _ _ _ _ _ _ _ _ _
   | exact ih5 _ _ _ _ _ _ _ _ _ _ _ _ _ _ _ _
   | exact ih6 _ _ _ _ _ _ _ _ _ _ _ _ _ _ _ _
   | exact mosaicref18_Table_Find.mono _ _ _ _ _ _
   | exact mosaicref18_Table_with.mono _ _ _ _ _ _ _ _ _ _ _ _ _ _ _
   | exact LeO.none _
   | refine LeO.ite ?_ ?_
   | refine LeO.bind ?_ (fun _=>?_)
  ·
   intro y0 y1 y2 y3 y4 y5 y6 y7 y8 y9 y10 y11 y12 y13 y14 y15
   unfold mosaicref18_Table_Set.j3
   repeat' first
   | (with_reducible exact ih0 _ _ _ _ _ _ _ _ _)
   | (with_reducible exact ih1 _ _ _ _ _ _ _ _ _ _ _ _ _ _ _ _ _ _)
   | (with_reducible exact ih2 _ _ _ _ _ _ _ _ _ _ _ _ _ _ _ _ _)
   | (with_reducible exact ih3 _ _ _ _ _ _ _ _ _ _ _ _ _ _ _ _)
   | (with_reducible exact ih4 _ _ _ _ _ _ _ _ _ _ _ _ _ _ _ _)
   | (with_reducible exact ih5 _ _ _ _ _ _ _ _ _ _ _ _ _ _ _ _)
   | (with_reducible exact ih6 _ _ _ _ _ _ _ _ _ _ _ _ _ _ _ _)
   | (with_reducible exact mosaicref18_Table_Find.mono _ _ _ _ _ _)
   | (with_reducible exact mosaicref18_Table_with.mono _ _ _ _ _ _ _ _ _ _ _ _ _ _ _)
   | (with_reducible exact LeO.refl _)
   | (with_reducible exact LeO.none _)
   | (with_reducible refine LeO.ite ?_ ?_)
   | (with_reducible refine LeO.bind ?_ (fun _=>?_))
   | exact ih0 _ _ _ _ _ _ _ _ _
   | exact ih1 _ _ _ _ _ _ _ _ _ _ _ _ _ _ _ _ _ _
   | exact ih2 _ _ _ _ _ _ _ _ _ _ _ _ _ _ _ _ _
   | exact ih3 _ _ _ _ _ _ _ _ _ _ _ _ _ _ _ _
   | exact ih4 _ _ _ _ _ _ _ _ _ _ _ _ _ _ _ _
   | exact ih5 _ _ _ _ _ _ _ _ _ _ _ _ _ _ _ _
   | exact ih6 _ _ _ _ _ _ _ _ _ _ _ _ _ _ _ _
   | exact mosaicref18_Table_Find.mono _ _ _ _ _ _
   | exact mosaicref18_Table_with.mono _ _ _ _ _ _ _ _ _ _ _ _ _ _ _
   | exact LeO.none _
   | refine LeO.ite ?_ ?_
   | refine LeO.bind ?_ (fun _=>?_)
  ·
   intro y0 y1 y2 y3 y4 y5 y6 y7 y8 y9 y10 y11 y12 y13 y14 y15
   unfold mosaicref18_Table_Set.j4
   repeat' first
   | (with_reducible exact ih0 _ _ _ _ _ _ _ _ _)
   | (with_reducible exact ih1 _ _ _ _ _ _ _ _ _ _ _ _ _ _ _ _ _ _)
   | (with_reducible exact ih2 _ _ _ _ _ _ _ _ _ _ _ _ _ _ _ _ _)
   | (with_reducible exact ih3 _ _ _ _ _ _ _ _ _ _ _ _ _ _ _ _)
   | (with_reducible exact ih4 _ _ _ _ _ _ _ _ _ _ _ _ _ _ _ _)
   | (with_reducible exact ih5 _ _ _ _ _ _ _ _ _ _ _ _ _ _ _ _)
   | (with_reducible exact ih6 _ _ _ _ _ _ _ _ _ _ _ _ _ _ _ _)
   | (with_reducible exact mosaicref18_Table_Find.mono _ _ _ _ _ _)
   | (with_reducible exact mosaicref18_Table_with.mono _ _ _ _ _ _ _ _ _ _ _ _ _ _ _)
   | (with_reducible exact LeO.refl _)
   | (with_reducible exact LeO.none _)
   | (with_reducible refine LeO.ite ?_ ?_)
   | (with_reducible refine LeO.bind ?_ (fun _=>?_))
   | exact ih0 _ _ _ _ _ _ _ _ _
   | exact ih1 _ _ _ _ _ _ _ _ _ _ _ _ _ _ _ _ _ _
   | exact ih2 _ _ _ _ _ _ _ _ _ _ _ _ _ _ _ _ _
   | exact ih3 _ _ _ _ _ _ _ _ _ _ _ _ _ _ _ _
   | exact ih4 _ _ _ _ _ _ _ _ _ _ _ _ _ _ _ _
   | exact ih5 _ _ _ _ _ _ _ _ _ _ _ _ _ _ _ _
   | exact ih6 _ _ _ _ _ _ _ _ _ _ _ _ _ _ _ _
   | exact mosaicref18_Table_Find.mono _ _ _ _ _ _
   | exact mosaicref18_Table_with.mono _ _ _ _ _ _ _ _ _ _ _ _ _ _ _
   | exact LeO.none _
   | refine LeO.ite ?_ ?_
   | refine LeO.bind ?_ (fun _=>?_)
  ·
   intro y0 y1 y2 y3 y4 y5 y6 y7 y8 y9 y10 y11 y12 y13 y14 y15
   unfold mosaicref18_Table_Set.j5
   repeat' first
   | (with_reducible exact ih0 _ _ _ _ _ _ _ _ _)
   | (with_reducible exact ih1 _ _ _ _ _ _ _ _ _ _ _ _ _ _ _ _ _ _)
   | (with_reducible exact ih2 _ _ _ _ _ _ _ _ _ _ _ _ _ _ _ _ _)
   | (with_reducible exact ih3 _ _ _ _ _ _ _ _ _ _ _ _ _ _ _ _)
   | (with_reducible exact ih4 _ _ _ _ _ _ _ _ _ _ _ _ _ _ _ _)
   | (with_reducible exact ih5 _ _ _ _ _ _ _ _ _ _ _ _ _ _ _ _)
   | (with_reducible exact ih6 _ _ _ _ _ _ _ _ _ _ _ _ _ _ _ _)
   | (with_reducible exact mosaicref18_Table_Find.mono _ _ _ _ _ _)
   | (with_reducible exact mosaicref18_Table_with.mono _ _ _ _ _ _ _ _ _ _ _ _ _ _ _)
   | (with_reducible exact LeO.refl _)
   | (with_reducible exact LeO.none _)
   | (with_reducible refine LeO.ite ?_ ?_)
   | (with_reducible refine LeO.bind ?_ (fun _=>?_))
   | exact ih0 _ _ _ _ _ _ _ _ _
   | exact ih1 _ _ _ _ _ _ _ _ _ _ _ _ _ _ _ _ _ _
   | exact ih2 _ _ _ _ _ _ _ _ _ _ _ _ _ _ _ _ _
   | exact ih3 _ _ _ _ _ _ _ _ _ _ _ _ _ _ _ _
   | exact ih4 _ _ _ _ _ _ _ _ _ _ _ _ _ _ _ _
   | exact ih5 _ _ _ _ _ _ _ _ _ _ _ _ _ _ _ _
   | exact ih6 _ _ _ _ _ _ _ _ _ _ _ _ _ _ _ _
   | exact mosaicref18_Table_Find.mono _ _ _ _ _ _
   | exact mosaicref18_Table_with.mono _ _ _ _ _ _ _ _ _ _ _ _ _ _ _
   | exact LeO.none _
   | refine LeO.ite ?_ ?_
   | refine LeO.bind ?_ (fun _=>?_)
  ·
   intro y0 y1 y2 y3 y4 y5 y6 y7 y8 y9 y10 y11 y12 y13 y14 y15
   unfold mosaicref18_Table_Set.j6
   repeat' first
   | (with_reducible exact ih0 _ _ _ _ _ _ _ _ _)
   | (with_reducible exact ih1 _ _ _ _ _ _ _ _ _ _ _ _ _ _ _ _ _ _)
   | (with_reducible exact ih2 _ _ _ _ _ _ _ _ _ _ _ _ _ _ _ _ _)
   | (with_reducible exact ih3 _ _ _ _ _ _ _ _ _ _ _ _ _ _ _ _)
   | (with_reducible exact ih4 _ _ _ _ _ _ _ _ _ _ _ _ _ _ _ _)
   | (with_reducible exact ih5 _ _ _ _ _ _ _ _ _ _ _ _ _ _ _ _)
   | (with_reducible exact ih6 _ _ _ _ _ _ _ _ _ _ _ _ _ _ _ _)
   | (with_reducible exact mosaicref18_Table_Find.mono _ _ _ _ _ _)
   | (with_reducible exact mosaicref18_Table_with.mono _ _ _ _ _ _ _ _ _ _ _ _ _ _ _)
   | (with_reducible exact LeO.refl _)
   | (with_reducible exact LeO.none _)
   | (with_reducible refine LeO.ite ?_ ?_)
   | (with_reducible refine LeO.bind ?_ (fun _=>?_))
   | exact ih0 _ _ _ _ _ _ _ _ _
   | exact ih1 _ _ _ _ _ _ _ _ _ _ _ _ _ _ _ _ _ _
   | exact ih2 _ _ _ _ _ _ _ _ _ _ _ _ _ _ _ _ _
   | exact ih3 _ _ _ _ _ _ _ _ _ _ _ _ _ _ _ _
   | exact ih4 _ _ _ _ _ _ _ _ _ _ _ _ _ _ _ _
   | exact ih5 _ _ _ _ _ _ _ _ _ _ _ _ _ _ _ _
   | exact ih6 _ _ _ _ _ _ _ _ _ _ _ _ _ _ _ _
   | exact mosaicref18_Table_Find.mono _ _ _ _ _ _
   | exact mosaicref18_Table_with.mono _ _ _ _ _ _ _ _ _ _ _ _ _ _ _
   | exact LeO.none _
   | refine LeO.ite ?_ ?_
   | refine LeO.bind ?_ (fun _=>?_)
theorem mosaicref18_Table_Set.mono:∀ a0 a1 a2 a3 a4 a5 a6 a7 k,LeO (mosaicref18_Table_Set.f k a0 a1 a2 a3 a4 a5 a6 a7) (mosaicref18_Table_Set.f (k+1) a0 a1 a2 a3 a4 a5 a6 a7):=by
 intro a0 a1 a2 a3 a4 a5 a6 a7 k
 obtain ⟨ih0,ih1,ih2,ih3,ih4,ih5,ih6⟩:=mosaicref18_Table_Set.mono_l k
 unfold mosaicref18_Table_Set.f
 repeat' first
   | (with_reducible exact ih0 _ _ _ _ _ _ _ _ _)
   | (with_reducible exact ih1 _ _ _ _ _ _ _ _ _ _ _ _ _ _ _ _ _ _)
   | (with_reducible exact ih2 _ _ _ _ _ _ _ _ _ _ _ _ _ _ _ _ _)
   | (with_reducible exact ih3 _ _ _ _ _ _ _ _ _ _ _ _ _ _ _ _)
   | (with_reducible exact ih4 _ _ _ _ _ _ _ _ _ _ _ _ _ _ _ _)
   | (with_reducible exact ih5 _ _ _ _ _ _ _ _ _ _ _ _ _ _ _ _)
   | (with_reducible exact ih6 _ _ _ _ _ _ _ _ _ _ _ _ _ _ _ _)
   | (with_reducible exact mosaicref18_Table_Find.mono _ _ _ _ _ _)
   | (with_reducible exact mosaicref18_Table_with.mono _ _ _ _ _ _ _ _ _ _ _ _ _ _ _)
   | (with_reducible exact LeO.refl _)
   | (with_reducible exact LeO.none _)
   | (with_reducible refine LeO.ite ?_ ?_)
   | (with_reducible refine LeO.bind ?_ (fun _=>?_))
   | exact ih0 _ _ _ _ _ _ _ _ _
   | exact ih1 _ _ _ _ _ _ _ _ _ _ _ _ _ _ _ _ _ _
   | exact ih2 _ _ _ _ _ _ _ _ _ _ _ _ _ _ _ _ _
   | exact ih3 _ _ _ _ _ _ _ _ _ _ _ _ _ _ _ _
   | exact ih4 _ _ _ _ _ _ _ _ _ _ _ _ _ _ _ _
   | exact ih5 _ _ _ _ _ _ _ _ _ _ _ _ _ _ _ _
   | exact ih6 _ _ _ _ _ _ _ _ _ _ _ _ _ _ _ _
   | exact mosaicref18_Table_Find.mono _ _ _ _ _ _
   | exact mosaicref18_Table_with.mono _ _ _ _ _ _ _ _ _ _ _ _ _ _ _
   | exact LeO.none _
   | refine LeO.ite ?_ ?_
   | refine LeO.bind ?_ (fun _=>?_)
set_option maxHeartbeats 8000000 in
set_option maxRecDepth 100000 in
theorem mosaicref18_Table_Set.calls (k:Nat) (a0_0:Int) (a0_1:Int) (P0_2_:Nat→Prop) (u9000_:Value) (l0_2:List (S56)) (P0_3_:Nat→Prop) (u9001_:Value) (l0_3:List Int) (a1:Int) (a2:Int) (a3:Int) (a4:ByteArray) (r1:Int) (r2:Int) (r3:List (S56)) (r4:List Int) (r5:Int) (w0 w:World) (hB:Below w0.heap.size w0 w) (ho0_2:Kd.R k56 56 w w0.heap.size P0_2_ u9000_ l0_2) (ho0_3:Kd.R (Kd.int .i64) 3 w w0.heap.size P0_3_ u9001_ l0_3) (h:mosaicref18_Table_Set.f k a0_0 a0_1 l0_2 l0_3 a1 a2 a3 a4=some (r1,r2,r3,r4,r5)) :
  Calls Try.prog 75 #[.agg #[.int .i64 a0_0,.int .i64 a0_1,u9000_,u9001_],.int .i64 a1,.int .i64 a2,.int .i64 a3,.string a4] w fun e w'=>∃ v2_ v3_:Value,e=.returned (.tuple #[.agg #[.int .i64 r1,.int .i64 r2,v2_,v3_],.int .i64 r5])∧Kd.R k56 56 w' w0.heap.size (fun k_=>((P0_2_ k_∨P0_3_ k_)∨w.heap.size≤k_)) v2_ r3∧Kd.R (Kd.int .i64) 3 w' w0.heap.size (fun k_=>((P0_2_ k_∨P0_3_ k_)∨w.heap.size≤k_)) v3_ r4∧Below w0.heap.size w0 w'∧Kept w w' (fun k_=>P0_2_ k_∨P0_3_ k_):=by
 have hu45:=Try.underlying45
 have hu56:=Try.underlying56
 have HO0_2:=Aside0.mk (show Kd.R k56 56 w w0.heap.size (fun k_=>((P0_2_ k_∨P0_3_ k_)∨w.heap.size≤k_)) u9000_ l0_2 from Kd.R_mono ho0_2 (fun k_ hk=>(.inl (.inl hk))))
 have HO0_3:=Aside0.mk (show Kd.R (Kd.int .i64) 3 w w0.heap.size (fun k_=>((P0_2_ k_∨P0_3_ k_)∨w.heap.size≤k_)) u9001_ l0_3 from Kd.R_mono ho0_3 (fun k_ hk=>(.inl (.inr hk))))
 have HK:=Aside0.mk (Kept.refl w (fun k_=>P0_2_ k_∨P0_3_ k_))
 have HW0:=Aside0.mk hB.size
 have HB:=Aside0.mk hB
 clear hB
 have H:(if a2=0 then ((mosaicref18_Tick.f a3).bind fun t3=>(if t3=true then (if a2=1 then (if (a4.size:Int) > 20 then (mosaicref18_Table_Set.j0 k a1 a2 a3 a4 true a0_0 a0_1 l0_2 l0_3) else (if a2=5 then (if a3 < 0 then (mosaicref18_Table_Set.j0 k a1 a2 a3 a4 true a0_0 a0_1 l0_2 l0_3) else (mosaicref18_Table_Set.j0 k a1 a2 a3 a4 (decide (a3 > 1099511627776)) a0_0 a0_1 l0_2 l0_3)) else (mosaicref18_Table_Set.j0 k a1 a2 a3 a4 false a0_0 a0_1 l0_2 l0_3))) else (if a2=5 then (if a3 < 0 then (mosaicref18_Table_Set.j0 k a1 a2 a3 a4 true a0_0 a0_1 l0_2 l0_3) else (mosaicref18_Table_Set.j0 k a1 a2 a3 a4 (decide (a3 > 1099511627776)) a0_0 a0_1 l0_2 l0_3)) else (mosaicref18_Table_Set.j0 k a1 a2 a3 a4 false a0_0 a0_1 l0_2 l0_3))) else (mosaicref18_Table_Set.j0 k a1 a2 a3 a4 true a0_0 a0_1 l0_2 l0_3))) else (if a2=1 then (if (a4.size:Int) > 20 then (mosaicref18_Table_Set.j0 k a1 a2 a3 a4 true a0_0 a0_1 l0_2 l0_3) else (if a2=5 then (if a3 < 0 then (mosaicref18_Table_Set.j0 k a1 a2 a3 a4 true a0_0 a0_1 l0_2 l0_3) else (mosaicref18_Table_Set.j0 k a1 a2 a3 a4 (decide (a3 > 1099511627776)) a0_0 a0_1 l0_2 l0_3)) else (mosaicref18_Table_Set.j0 k a1 a2 a3 a4 false a0_0 a0_1 l0_2 l0_3))) else (if a2=5 then (if a3 < 0 then (mosaicref18_Table_Set.j0 k a1 a2 a3 a4 true a0_0 a0_1 l0_2 l0_3) else (mosaicref18_Table_Set.j0 k a1 a2 a3 a4 (decide (a3 > 1099511627776)) a0_0 a0_1 l0_2 l0_3)) else (mosaicref18_Table_Set.j0 k a1 a2 a3 a4 false a0_0 a0_1 l0_2 l0_3))))=some (r1,r2,r3,r4,r5):=h
 clear h
 have HC6:=Aside0.mk H
 clear H
 obtain ⟨Ao7,co7,eo7⟩:=Kd.R_slice HO0_2.out
 subst eo7
 obtain ⟨Ao8,co8,eo8⟩:=Kd.R_slice HO0_3.out
 subst eo8
 go_enter Try.func75,Try.ntmps75
 go_upto_region 1 with (first|((with_reducible refine gate_dst (N:=5) rfl ?_);(try (refine gate_guard (by rfl) ?_;dsimp only));refine box_event ?hg (N:=5) ?hd (cs:=#[.int .i64 a0_0,.int .i64 a0_1,.slice Ao7 l0_2.length co7,.slice Ao8 l0_3.length co8]) (t:=45) ?hr ?_;(case hd=>rfl);(case hg=>rfl);(case hr=>first|(go_simp;done)|(go_simp;rfl));intro gb1 hg w9 hbox hb;have n0_:=Aside0.mk (Kd.R_below (by (with_reducible repeat (first|apply Kd.R_alloc|apply Kd.R_drewN|apply Kd.R_drew));exact HO0_2.out) hb);have n1_:=Aside0.mk (Kd.R_below (by (with_reducible repeat (first|apply Kd.R_alloc|apply Kd.R_drewN|apply Kd.R_drew));exact HO0_3.out) hb);have n2_:=Aside0.mk (Kept.below (S:=(fun k_=>P0_2_ k_∨P0_3_ k_)) (by repeat (first|(with_reducible first|exact HK.out|apply Kept.alloc|apply Kept.drewN|apply Kept.drew)|exact HK.out)) hb);have n3_:=Aside0.mk (below_step (by repeat (first|(with_reducible first|exact HB.out|apply below_alloc|apply pw_below_drewN|apply below_drew1)|exact HB.out)) hb);have n4_:=Aside0.mk (hbox);have n5_:=Aside0.mk ((by rw [hg];exact (by first|exact HK.out.1|exact (show Kept w _ (fun k_=>P0_2_ k_∨P0_3_ k_) from by repeat (first|(with_reducible first|exact HK.out|apply Kept.alloc|apply Kept.drewN|apply Kept.drew)|exact HK.out)).1):w.heap.size≤gb1));have n6_:=Aside0.mk ((by rw [hg];exact (below_size (by repeat (first|(with_reducible first|exact HB.out|apply below_alloc|apply pw_below_drewN|apply below_drew1)|exact HB.out))):w0.heap.size≤gb1));clear HO0_2;clear HO0_3;clear HK;clear HB;have HO0_2:=n0_;have HO0_3:=n1_;have HK:=n2_;have HB:=n3_;have BK1:=n4_;have GW1:=n5_;have GE1:=n6_;clear n0_ n1_ n2_ n3_ n4_ n5_ n6_;clear hb hbox hg)|((with_reducible refine gate_dst (N:=10) rfl ?_);(try (refine gate_guard (by rfl) ?_;dsimp only));refine box_event ?hg (N:=10) ?hd (cs:=#[.int .i64 0,.int .i64 0,.slice none 0 0,.slice none 0 0]) (t:=45) ?hr ?_;(case hd=>rfl);(case hg=>rfl);(case hr=>first|(go_simp;done)|(go_simp;rfl));intro gb2 hg w10 hbox hb;have n0_:=Aside0.mk (Kd.R_below (by (with_reducible repeat (first|apply Kd.R_alloc|apply Kd.R_drewN|apply Kd.R_drew));exact HO0_2.out) hb);have n1_:=Aside0.mk (Kd.R_below (by (with_reducible repeat (first|apply Kd.R_alloc|apply Kd.R_drewN|apply Kd.R_drew));exact HO0_3.out) hb);have n2_:=Aside0.mk (blk_below (g:=gb1) (o:=.cells #[.int .i64 a0_0,.int .i64 a0_1,.slice Ao7 l0_2.length co7,.slice Ao8 l0_3.length co8] 45 (0,0)) (by (with_reducible repeat (first|refine blk_drewN ?_ _|refine blk_drew ?_|refine blk_alloc ?_ _));exact BK1.out) hb);have n3_:=Aside0.mk (Kept.below (S:=(fun k_=>P0_2_ k_∨P0_3_ k_)) (by repeat (first|(with_reducible first|exact HK.out|apply Kept.alloc|apply Kept.drewN|apply Kept.drew|refine Kept.setCell ?_ (.inr GW1.out) _)|exact HK.out)) hb);have n4_:=Aside0.mk (below_step (by repeat (first|(with_reducible first|exact HB.out|apply below_alloc|apply pw_below_drewN|apply below_drew1|refine below_set ?_ GE1.out)|exact HB.out)) hb);have n5_:=Aside0.mk (hbox);have n6_:=Aside0.mk ((by rw [hg];exact (by first|exact HK.out.1|exact (show Kept w _ (fun k_=>P0_2_ k_∨P0_3_ k_) from by repeat (first|(with_reducible first|exact HK.out|apply Kept.alloc|apply Kept.drewN|apply Kept.drew|refine Kept.setCell ?_ (.inr GW1.out) _)|exact HK.out)).1):w.heap.size≤gb2));have n7_:=Aside0.mk ((by rw [hg];exact (below_size (by repeat (first|(with_reducible first|exact HB.out|apply below_alloc|apply pw_below_drewN|apply below_drew1|refine below_set ?_ GE1.out)|exact HB.out))):w0.heap.size≤gb2));have n8_:=Aside0.mk ((by rw [hg];exact Nat.ne_of_lt (blk_lt (g:=gb1) (o:=.cells #[.int .i64 a0_0,.int .i64 a0_1,.slice Ao7 l0_2.length co7,.slice Ao8 l0_3.length co8] 45 (0,0)) (by (with_reducible repeat (first|refine blk_drewN ?_ _|refine blk_drew ?_|refine blk_alloc ?_ _));exact BK1.out)):gb1≠gb2));have n9_:=Aside0.mk ((by rw [hg];exact Nat.ne_of_gt (blk_lt (g:=gb1) (o:=.cells #[.int .i64 a0_0,.int .i64 a0_1,.slice Ao7 l0_2.length co7,.slice Ao8 l0_3.length co8] 45 (0,0)) (by (with_reducible repeat (first|refine blk_drewN ?_ _|refine blk_drew ?_|refine blk_alloc ?_ _));exact BK1.out)):gb2≠gb1));clear HO0_2;clear HO0_3;clear BK1;clear HK;clear HB;have HO0_2:=n0_;have HO0_3:=n1_;have BK1:=n2_;have HK:=n3_;have HB:=n4_;have BK2:=n5_;have GW2:=n6_;have GE2:=n7_;have NB1_2:=n8_;have NB2_1:=n9_;clear n0_ n1_ n2_ n3_ n4_ n5_ n6_ n7_ n8_ n9_;clear hb hbox hg))
 (try simp only [Act.put,List.setIfInBounds_toArray,List.set_cons_zero,List.set_cons_succ])
 go_cut [41] (fun v41 wc=>∃ (kq:Nat) (x41_5:Bool),v41=.bool x41_5∧Aside0 (mosaicref18_Table_Set.j0 kq a1 a2 a3 a4 x41_5 a0_0 a0_1 l0_2 l0_3=some (r1,r2,r3,r4,r5))∧Aside0 (kq≤k)∧Aside0 (Kd.R k56 56 wc w0.heap.size (fun k_=>((P0_2_ k_∨P0_3_ k_)∨w.heap.size≤k_)) (.slice Ao7 l0_2.length co7) l0_2)∧Aside0 (Kd.R (Kd.int .i64) 3 wc w0.heap.size (fun k_=>((P0_2_ k_∨P0_3_ k_)∨w.heap.size≤k_)) (.slice Ao8 l0_3.length co8) l0_3)∧Aside0 (wc.heap[gb1]?=some (.cells #[.int .i64 a0_0,.int .i64 a0_1,(.slice Ao7 l0_2.length co7),(.slice Ao8 l0_3.length co8)] 45 (0,0)))∧Aside0 (wc.heap[gb2]?=some (.cells #[.int .i64 0,.int .i64 0,(.slice none 0 0),(.slice none 0 0)] 45 (0,0)))∧Aside0 (Kept w wc (fun k_=>P0_2_ k_∨P0_3_ k_))∧Aside0 (Below w0.heap.size w0 wc))
 case first =>
  have H:=HC6.out
  clear HC6
  by_cases c11:a2=0
  ·
   rw [if_pos c11] at H
   have c11b0:(a2 == 0)=true:=beq_iff_eq.mpr c11
   have c11b1:(a2 != 0)=false:=bne_eq_false_iff_eq.mpr c11
   clear c11
   (first|rw [c11b0]|(simp only [i64_w,i32_w];rw [c11b0])|skip)
   replace H:=Option.bind_eq_some_iff.mp H
   obtain ⟨t3,A120,H⟩:=H
   replace H:(if t3=true then (if a2=1 then (if (a4.size:Int) > 20 then (mosaicref18_Table_Set.j0 k a1 a2 a3 a4 true a0_0 a0_1 l0_2 l0_3) else (if a2=5 then (if a3 < 0 then (mosaicref18_Table_Set.j0 k a1 a2 a3 a4 true a0_0 a0_1 l0_2 l0_3) else (mosaicref18_Table_Set.j0 k a1 a2 a3 a4 (decide (a3 > 1099511627776)) a0_0 a0_1 l0_2 l0_3)) else (mosaicref18_Table_Set.j0 k a1 a2 a3 a4 false a0_0 a0_1 l0_2 l0_3))) else (if a2=5 then (if a3 < 0 then (mosaicref18_Table_Set.j0 k a1 a2 a3 a4 true a0_0 a0_1 l0_2 l0_3) else (mosaicref18_Table_Set.j0 k a1 a2 a3 a4 (decide (a3 > 1099511627776)) a0_0 a0_1 l0_2 l0_3)) else (mosaicref18_Table_Set.j0 k a1 a2 a3 a4 false a0_0 a0_1 l0_2 l0_3))) else (mosaicref18_Table_Set.j0 k a1 a2 a3 a4 true a0_0 a0_1 l0_2 l0_3))=some (r1,r2,r3,r4,r5):=H
   have A12:=Aside0.mk A120
   clear A120
   by_cases c13:t3=true
   ·
    subst c13
    have H1:(if a2=1 then (if (a4.size:Int) > 20 then (mosaicref18_Table_Set.j0 k a1 a2 a3 a4 true a0_0 a0_1 l0_2 l0_3) else (if a2=5 then (if a3 < 0 then (mosaicref18_Table_Set.j0 k a1 a2 a3 a4 true a0_0 a0_1 l0_2 l0_3) else (mosaicref18_Table_Set.j0 k a1 a2 a3 a4 (decide (a3 > 1099511627776)) a0_0 a0_1 l0_2 l0_3)) else (mosaicref18_Table_Set.j0 k a1 a2 a3 a4 false a0_0 a0_1 l0_2 l0_3))) else (if a2=5 then (if a3 < 0 then (mosaicref18_Table_Set.j0 k a1 a2 a3 a4 true a0_0 a0_1 l0_2 l0_3) else (mosaicref18_Table_Set.j0 k a1 a2 a3 a4 (decide (a3 > 1099511627776)) a0_0 a0_1 l0_2 l0_3)) else (mosaicref18_Table_Set.j0 k a1 a2 a3 a4 false a0_0 a0_1 l0_2 l0_3)))=some (r1,r2,r3,r4,r5):=by rw [if_pos rfl] at H;exact H
    clear H
    have H:=H1
    clear H1
    by_cases c14:a2=1
    ·
     rw [if_pos c14] at H
     have c14b0:(a2 == 1)=true:=beq_iff_eq.mpr c14
     have c14b1:(a2 != 1)=false:=bne_eq_false_iff_eq.mpr c14
     clear c14
     by_cases c15:(a4.size:Int) > 20
     ·
      rw [if_pos c15] at H
      have c15b0:decide (20 < (a4.size:Int))=true:=decide_eq_true c15
      have c15b1:decide (20 < a4.size)=true:=decide_eq_true (by omega)
      clear c15
      have H':=Aside0.mk H
      clear H
      go_wp2_with (first|(go_at_call 73;(with_reducible refine (mosaicref18_Tick.calls a3 true _ A12.out).mono ?_);rintro e w' ⟨rfl,⟨nd,rfl⟩⟩))
      go_meet
      case rel=>exact ⟨_,(true),(by first|rfl|(simp;done)|(simp [*];done)),H',⟨by first|omega|exact Nat.le_refl _⟩,⟨by (with_reducible repeat (first|apply Kd.R_alloc|apply Kd.R_drewN|apply Kd.R_drew));exact HO0_2.out⟩,⟨by (with_reducible repeat (first|apply Kd.R_alloc|apply Kd.R_drewN|apply Kd.R_drew));exact HO0_3.out⟩,⟨by (with_reducible repeat (first|refine blk_drewN ?_ _|refine blk_drew ?_|refine blk_alloc ?_ _));exact BK1.out⟩,⟨by (with_reducible repeat (first|refine blk_drewN ?_ _|refine blk_drew ?_|refine blk_alloc ?_ _));exact BK2.out⟩,⟨by repeat (first|(with_reducible first|exact HK.out|apply Kept.alloc|apply Kept.drewN|apply Kept.drew|refine Kept.setCell ?_ (.inr GW1.out) _|refine Kept.setCell ?_ (.inr GW2.out) _)|exact HK.out)⟩,⟨by repeat (first|(with_reducible first|exact HB.out|apply below_alloc|apply pw_below_drewN|apply below_drew1|refine below_set ?_ GE1.out|refine below_set ?_ GE2.out)|exact HB.out)⟩⟩
     ·
      rw [if_neg c15] at H
      have c15b0:decide (20 < (a4.size:Int))=false:=decide_eq_false c15
      have c15b1:decide (20 < a4.size)=false:=decide_eq_false (by omega)
      clear c15
      by_cases c16:a2=5
      ·
       rw [if_pos c16] at H
       have c16b0:(a2 == 5)=true:=beq_iff_eq.mpr c16
       have c16b1:(a2 != 5)=false:=bne_eq_false_iff_eq.mpr c16
       clear c16
       by_cases c17:a3 < 0
       ·
        rw [if_pos c17] at H
        have c17b0:decide (a3 < 0)=true:=decide_eq_true c17
        clear c17
        have H':=Aside0.mk H
        clear H
        go_wp2_with (first|(go_at_call 73;(with_reducible refine (mosaicref18_Tick.calls a3 true _ A12.out).mono ?_);rintro e w' ⟨rfl,⟨nd,rfl⟩⟩))
        go_meet
        case rel=>exact ⟨_,(true),(by first|rfl|(simp;done)|(simp [*];done)),H',⟨by first|omega|exact Nat.le_refl _⟩,⟨by (with_reducible repeat (first|apply Kd.R_alloc|apply Kd.R_drewN|apply Kd.R_drew));exact HO0_2.out⟩,⟨by (with_reducible repeat (first|apply Kd.R_alloc|apply Kd.R_drewN|apply Kd.R_drew));exact HO0_3.out⟩,⟨by (with_reducible repeat (first|refine blk_drewN ?_ _|refine blk_drew ?_|refine blk_alloc ?_ _));exact BK1.out⟩,⟨by (with_reducible repeat (first|refine blk_drewN ?_ _|refine blk_drew ?_|refine blk_alloc ?_ _));exact BK2.out⟩,⟨by repeat (first|(with_reducible first|exact HK.out|apply Kept.alloc|apply Kept.drewN|apply Kept.drew|refine Kept.setCell ?_ (.inr GW1.out) _|refine Kept.setCell ?_ (.inr GW2.out) _)|exact HK.out)⟩,⟨by repeat (first|(with_reducible first|exact HB.out|apply below_alloc|apply pw_below_drewN|apply below_drew1|refine below_set ?_ GE1.out|refine below_set ?_ GE2.out)|exact HB.out)⟩⟩
       ·
        rw [if_neg c17] at H
        have c17b0:decide (a3 < 0)=false:=decide_eq_false c17
        clear c17
        have H':=Aside0.mk H
        clear H
        go_wp2_with (first|(go_at_call 73;(with_reducible refine (mosaicref18_Tick.calls a3 true _ A12.out).mono ?_);rintro e w' ⟨rfl,⟨nd,rfl⟩⟩))
        go_meet
        case rel=>exact ⟨_,(decide (a3 > 1099511627776)),(by first|rfl|(simp;done)|(simp [*];done)),H',⟨by first|omega|exact Nat.le_refl _⟩,⟨by (with_reducible repeat (first|apply Kd.R_alloc|apply Kd.R_drewN|apply Kd.R_drew));exact HO0_2.out⟩,⟨by (with_reducible repeat (first|apply Kd.R_alloc|apply Kd.R_drewN|apply Kd.R_drew));exact HO0_3.out⟩,⟨by (with_reducible repeat (first|refine blk_drewN ?_ _|refine blk_drew ?_|refine blk_alloc ?_ _));exact BK1.out⟩,⟨by (with_reducible repeat (first|refine blk_drewN ?_ _|refine blk_drew ?_|refine blk_alloc ?_ _));exact BK2.out⟩,⟨by repeat (first|(with_reducible first|exact HK.out|apply Kept.alloc|apply Kept.drewN|apply Kept.drew|refine Kept.setCell ?_ (.inr GW1.out) _|refine Kept.setCell ?_ (.inr GW2.out) _)|exact HK.out)⟩,⟨by repeat (first|(with_reducible first|exact HB.out|apply below_alloc|apply pw_below_drewN|apply below_drew1|refine below_set ?_ GE1.out|refine below_set ?_ GE2.out)|exact HB.out)⟩⟩
      ·
       rw [if_neg c16] at H
       have c16b0:(a2 == 5)=false:=beq_eq_false_iff_ne.mpr c16
       have c16b1:(a2 != 5)=true:=bne_iff_ne.mpr c16
       have H':=Aside0.mk H
       clear H
       go_wp2_with (first|(go_at_call 73;(with_reducible refine (mosaicref18_Tick.calls a3 true _ A12.out).mono ?_);rintro e w' ⟨rfl,⟨nd,rfl⟩⟩))
       go_meet
       case rel=>exact ⟨_,(false),(by first|rfl|(simp;done)|(simp [*];done)),H',⟨by first|omega|exact Nat.le_refl _⟩,⟨by (with_reducible repeat (first|apply Kd.R_alloc|apply Kd.R_drewN|apply Kd.R_drew));exact HO0_2.out⟩,⟨by (with_reducible repeat (first|apply Kd.R_alloc|apply Kd.R_drewN|apply Kd.R_drew));exact HO0_3.out⟩,⟨by (with_reducible repeat (first|refine blk_drewN ?_ _|refine blk_drew ?_|refine blk_alloc ?_ _));exact BK1.out⟩,⟨by (with_reducible repeat (first|refine blk_drewN ?_ _|refine blk_drew ?_|refine blk_alloc ?_ _));exact BK2.out⟩,⟨by repeat (first|(with_reducible first|exact HK.out|apply Kept.alloc|apply Kept.drewN|apply Kept.drew|refine Kept.setCell ?_ (.inr GW1.out) _|refine Kept.setCell ?_ (.inr GW2.out) _)|exact HK.out)⟩,⟨by repeat (first|(with_reducible first|exact HB.out|apply below_alloc|apply pw_below_drewN|apply below_drew1|refine below_set ?_ GE1.out|refine below_set ?_ GE2.out)|exact HB.out)⟩⟩
    ·
     rw [if_neg c14] at H
     have c14b0:(a2 == 1)=false:=beq_eq_false_iff_ne.mpr c14
     have c14b1:(a2 != 1)=true:=bne_iff_ne.mpr c14
     by_cases c18:a2=5
     ·
      rw [if_pos c18] at H
      have c18b0:(a2 == 5)=true:=beq_iff_eq.mpr c18
      have c18b1:(a2 != 5)=false:=bne_eq_false_iff_eq.mpr c18
      clear c18
      by_cases c19:a3 < 0
      ·
       rw [if_pos c19] at H
       have c19b0:decide (a3 < 0)=true:=decide_eq_true c19
       clear c19
       have H':=Aside0.mk H
       clear H
       go_wp2_with (first|(go_at_call 73;(with_reducible refine (mosaicref18_Tick.calls a3 true _ A12.out).mono ?_);rintro e w' ⟨rfl,⟨nd,rfl⟩⟩))
       go_meet
       case rel=>exact ⟨_,(true),(by first|rfl|(simp;done)|(simp [*];done)),H',⟨by first|omega|exact Nat.le_refl _⟩,⟨by (with_reducible repeat (first|apply Kd.R_alloc|apply Kd.R_drewN|apply Kd.R_drew));exact HO0_2.out⟩,⟨by (with_reducible repeat (first|apply Kd.R_alloc|apply Kd.R_drewN|apply Kd.R_drew));exact HO0_3.out⟩,⟨by (with_reducible repeat (first|refine blk_drewN ?_ _|refine blk_drew ?_|refine blk_alloc ?_ _));exact BK1.out⟩,⟨by (with_reducible repeat (first|refine blk_drewN ?_ _|refine blk_drew ?_|refine blk_alloc ?_ _));exact BK2.out⟩,⟨by repeat (first|(with_reducible first|exact HK.out|apply Kept.alloc|apply Kept.drewN|apply Kept.drew|refine Kept.setCell ?_ (.inr GW1.out) _|refine Kept.setCell ?_ (.inr GW2.out) _)|exact HK.out)⟩,⟨by repeat (first|(with_reducible first|exact HB.out|apply below_alloc|apply pw_below_drewN|apply below_drew1|refine below_set ?_ GE1.out|refine below_set ?_ GE2.out)|exact HB.out)⟩⟩
      ·
       rw [if_neg c19] at H
       have c19b0:decide (a3 < 0)=false:=decide_eq_false c19
       clear c19
       have H':=Aside0.mk H
       clear H
       go_wp2_with (first|(go_at_call 73;(with_reducible refine (mosaicref18_Tick.calls a3 true _ A12.out).mono ?_);rintro e w' ⟨rfl,⟨nd,rfl⟩⟩))
       go_meet
       case rel=>exact ⟨_,(decide (a3 > 1099511627776)),(by first|rfl|(simp;done)|(simp [*];done)),H',⟨by first|omega|exact Nat.le_refl _⟩,⟨by (with_reducible repeat (first|apply Kd.R_alloc|apply Kd.R_drewN|apply Kd.R_drew));exact HO0_2.out⟩,⟨by (with_reducible repeat (first|apply Kd.R_alloc|apply Kd.R_drewN|apply Kd.R_drew));exact HO0_3.out⟩,⟨by (with_reducible repeat (first|refine blk_drewN ?_ _|refine blk_drew ?_|refine blk_alloc ?_ _));exact BK1.out⟩,⟨by (with_reducible repeat (first|refine blk_drewN ?_ _|refine blk_drew ?_|refine blk_alloc ?_ _));exact BK2.out⟩,⟨by repeat (first|(with_reducible first|exact HK.out|apply Kept.alloc|apply Kept.drewN|apply Kept.drew|refine Kept.setCell ?_ (.inr GW1.out) _|refine Kept.setCell ?_ (.inr GW2.out) _)|exact HK.out)⟩,⟨by repeat (first|(with_reducible first|exact HB.out|apply below_alloc|apply pw_below_drewN|apply below_drew1|refine below_set ?_ GE1.out|refine below_set ?_ GE2.out)|exact HB.out)⟩⟩
     ·
      rw [if_neg c18] at H
      have c18b0:(a2 == 5)=false:=beq_eq_false_iff_ne.mpr c18
      have c18b1:(a2 != 5)=true:=bne_iff_ne.mpr c18
      have H':=Aside0.mk H
      clear H
      go_wp2_with (first|(go_at_call 73;(with_reducible refine (mosaicref18_Tick.calls a3 true _ A12.out).mono ?_);rintro e w' ⟨rfl,⟨nd,rfl⟩⟩))
      go_meet
      case rel=>exact ⟨_,(false),(by first|rfl|(simp;done)|(simp [*];done)),H',⟨by first|omega|exact Nat.le_refl _⟩,⟨by (with_reducible repeat (first|apply Kd.R_alloc|apply Kd.R_drewN|apply Kd.R_drew));exact HO0_2.out⟩,⟨by (with_reducible repeat (first|apply Kd.R_alloc|apply Kd.R_drewN|apply Kd.R_drew));exact HO0_3.out⟩,⟨by (with_reducible repeat (first|refine blk_drewN ?_ _|refine blk_drew ?_|refine blk_alloc ?_ _));exact BK1.out⟩,⟨by (with_reducible repeat (first|refine blk_drewN ?_ _|refine blk_drew ?_|refine blk_alloc ?_ _));exact BK2.out⟩,⟨by repeat (first|(with_reducible first|exact HK.out|apply Kept.alloc|apply Kept.drewN|apply Kept.drew|refine Kept.setCell ?_ (.inr GW1.out) _|refine Kept.setCell ?_ (.inr GW2.out) _)|exact HK.out)⟩,⟨by repeat (first|(with_reducible first|exact HB.out|apply below_alloc|apply pw_below_drewN|apply below_drew1|refine below_set ?_ GE1.out|refine below_set ?_ GE2.out)|exact HB.out)⟩⟩
   ·
    replace c13:=Bool.eq_false_iff.mpr c13
    subst c13
    have H1:(mosaicref18_Table_Set.j0 k a1 a2 a3 a4 true a0_0 a0_1 l0_2 l0_3)=some (r1,r2,r3,r4,r5):=by rw [if_neg (show ¬ (false=true) by decide)] at H;exact H
    clear H
    have H:=H1
    clear H1
    have H':=Aside0.mk H
    clear H
    go_wp2_with (first|(go_at_call 73;(with_reducible refine (mosaicref18_Tick.calls a3 false _ A12.out).mono ?_);rintro e w' ⟨rfl,⟨nd,rfl⟩⟩))
    go_meet
    case rel=>exact ⟨_,(true),(by first|rfl|(simp;done)|(simp [*];done)),H',⟨by first|omega|exact Nat.le_refl _⟩,⟨by (with_reducible repeat (first|apply Kd.R_alloc|apply Kd.R_drewN|apply Kd.R_drew));exact HO0_2.out⟩,⟨by (with_reducible repeat (first|apply Kd.R_alloc|apply Kd.R_drewN|apply Kd.R_drew));exact HO0_3.out⟩,⟨by (with_reducible repeat (first|refine blk_drewN ?_ _|refine blk_drew ?_|refine blk_alloc ?_ _));exact BK1.out⟩,⟨by (with_reducible repeat (first|refine blk_drewN ?_ _|refine blk_drew ?_|refine blk_alloc ?_ _));exact BK2.out⟩,⟨by repeat (first|(with_reducible first|exact HK.out|apply Kept.alloc|apply Kept.drewN|apply Kept.drew|refine Kept.setCell ?_ (.inr GW1.out) _|refine Kept.setCell ?_ (.inr GW2.out) _)|exact HK.out)⟩,⟨by repeat (first|(with_reducible first|exact HB.out|apply below_alloc|apply pw_below_drewN|apply below_drew1|refine below_set ?_ GE1.out|refine below_set ?_ GE2.out)|exact HB.out)⟩⟩
  ·
   rw [if_neg c11] at H
   have c11b0:(a2 == 0)=false:=beq_eq_false_iff_ne.mpr c11
   have c11b1:(a2 != 0)=true:=bne_iff_ne.mpr c11
   (first|rw [c11b0]|(simp only [i64_w,i32_w];rw [c11b0])|skip)
   by_cases c20:a2=1
   ·
    rw [if_pos c20] at H
    have c20b0:(a2 == 1)=true:=beq_iff_eq.mpr c20
    have c20b1:(a2 != 1)=false:=bne_eq_false_iff_eq.mpr c20
    clear c20
    by_cases c21:(a4.size:Int) > 20
    ·
     rw [if_pos c21] at H
     have c21b0:decide (20 < (a4.size:Int))=true:=decide_eq_true c21
     have c21b1:decide (20 < a4.size)=true:=decide_eq_true (by omega)
     clear c21
     have H':=Aside0.mk H
     clear H
     go_wp2
     go_meet
     case rel=>exact ⟨_,(true),(by first|rfl|(simp;done)|(simp [*];done)),H',⟨by first|omega|exact Nat.le_refl _⟩,⟨by (with_reducible repeat (first|apply Kd.R_alloc|apply Kd.R_drewN|apply Kd.R_drew));exact HO0_2.out⟩,⟨by (with_reducible repeat (first|apply Kd.R_alloc|apply Kd.R_drewN|apply Kd.R_drew));exact HO0_3.out⟩,⟨by (with_reducible repeat (first|refine blk_drewN ?_ _|refine blk_drew ?_|refine blk_alloc ?_ _));exact BK1.out⟩,⟨by (with_reducible repeat (first|refine blk_drewN ?_ _|refine blk_drew ?_|refine blk_alloc ?_ _));exact BK2.out⟩,⟨by repeat (first|(with_reducible first|exact HK.out|apply Kept.alloc|apply Kept.drewN|apply Kept.drew|refine Kept.setCell ?_ (.inr GW1.out) _|refine Kept.setCell ?_ (.inr GW2.out) _)|exact HK.out)⟩,⟨by repeat (first|(with_reducible first|exact HB.out|apply below_alloc|apply pw_below_drewN|apply below_drew1|refine below_set ?_ GE1.out|refine below_set ?_ GE2.out)|exact HB.out)⟩⟩
    ·
     rw [if_neg c21] at H
     have c21b0:decide (20 < (a4.size:Int))=false:=decide_eq_false c21
     have c21b1:decide (20 < a4.size)=false:=decide_eq_false (by omega)
     clear c21
     by_cases c22:a2=5
     ·
      rw [if_pos c22] at H
      have c22b0:(a2 == 5)=true:=beq_iff_eq.mpr c22
      have c22b1:(a2 != 5)=false:=bne_eq_false_iff_eq.mpr c22
      clear c22
      by_cases c23:a3 < 0
      ·
       rw [if_pos c23] at H
       have c23b0:decide (a3 < 0)=true:=decide_eq_true c23
       clear c23
       have H':=Aside0.mk H
       clear H
       go_wp2
       go_meet
       case rel=>exact ⟨_,(true),(by first|rfl|(simp;done)|(simp [*];done)),H',⟨by first|omega|exact Nat.le_refl _⟩,⟨by (with_reducible repeat (first|apply Kd.R_alloc|apply Kd.R_drewN|apply Kd.R_drew));exact HO0_2.out⟩,⟨by (with_reducible repeat (first|apply Kd.R_alloc|apply Kd.R_drewN|apply Kd.R_drew));exact HO0_3.out⟩,⟨by (with_reducible repeat (first|refine blk_drewN ?_ _|refine blk_drew ?_|refine blk_alloc ?_ _));exact BK1.out⟩,⟨by (with_reducible repeat (first|refine blk_drewN ?_ _|refine blk_drew ?_|refine blk_alloc ?_ _));exact BK2.out⟩,⟨by repeat (first|(with_reducible first|exact HK.out|apply Kept.alloc|apply Kept.drewN|apply Kept.drew|refine Kept.setCell ?_ (.inr GW1.out) _|refine Kept.setCell ?_ (.inr GW2.out) _)|exact HK.out)⟩,⟨by repeat (first|(with_reducible first|exact HB.out|apply below_alloc|apply pw_below_drewN|apply below_drew1|refine below_set ?_ GE1.out|refine below_set ?_ GE2.out)|exact HB.out)⟩⟩
      ·
       rw [if_neg c23] at H
       have c23b0:decide (a3 < 0)=false:=decide_eq_false c23
       clear c23
       have H':=Aside0.mk H
       clear H
       go_wp2
       go_meet
       case rel=>exact ⟨_,(decide (a3 > 1099511627776)),(by first|rfl|(simp;done)|(simp [*];done)),H',⟨by first|omega|exact Nat.le_refl _⟩,⟨by (with_reducible repeat (first|apply Kd.R_alloc|apply Kd.R_drewN|apply Kd.R_drew));exact HO0_2.out⟩,⟨by (with_reducible repeat (first|apply Kd.R_alloc|apply Kd.R_drewN|apply Kd.R_drew));exact HO0_3.out⟩,⟨by (with_reducible repeat (first|refine blk_drewN ?_ _|refine blk_drew ?_|refine blk_alloc ?_ _));exact BK1.out⟩,⟨by (with_reducible repeat (first|refine blk_drewN ?_ _|refine blk_drew ?_|refine blk_alloc ?_ _));exact BK2.out⟩,⟨by repeat (first|(with_reducible first|exact HK.out|apply Kept.alloc|apply Kept.drewN|apply Kept.drew|refine Kept.setCell ?_ (.inr GW1.out) _|refine Kept.setCell ?_ (.inr GW2.out) _)|exact HK.out)⟩,⟨by repeat (first|(with_reducible first|exact HB.out|apply below_alloc|apply pw_below_drewN|apply below_drew1|refine below_set ?_ GE1.out|refine below_set ?_ GE2.out)|exact HB.out)⟩⟩
     ·
      rw [if_neg c22] at H
      have c22b0:(a2 == 5)=false:=beq_eq_false_iff_ne.mpr c22
      have c22b1:(a2 != 5)=true:=bne_iff_ne.mpr c22
      have H':=Aside0.mk H
      clear H
      go_wp2
      go_meet
      case rel=>exact ⟨_,(false),(by first|rfl|(simp;done)|(simp [*];done)),H',⟨by first|omega|exact Nat.le_refl _⟩,⟨by (with_reducible repeat (first|apply Kd.R_alloc|apply Kd.R_drewN|apply Kd.R_drew));exact HO0_2.out⟩,⟨by (with_reducible repeat (first|apply Kd.R_alloc|apply Kd.R_drewN|apply Kd.R_drew));exact HO0_3.out⟩,⟨by (with_reducible repeat (first|refine blk_drewN ?_ _|refine blk_drew ?_|refine blk_alloc ?_ _));exact BK1.out⟩,⟨by (with_reducible repeat (first|refine blk_drewN ?_ _|refine blk_drew ?_|refine blk_alloc ?_ _));exact BK2.out⟩,⟨by repeat (first|(with_reducible first|exact HK.out|apply Kept.alloc|apply Kept.drewN|apply Kept.drew|refine Kept.setCell ?_ (.inr GW1.out) _|refine Kept.setCell ?_ (.inr GW2.out) _)|exact HK.out)⟩,⟨by repeat (first|(with_reducible first|exact HB.out|apply below_alloc|apply pw_below_drewN|apply below_drew1|refine below_set ?_ GE1.out|refine below_set ?_ GE2.out)|exact HB.out)⟩⟩
   ·
    rw [if_neg c20] at H
    have c20b0:(a2 == 1)=false:=beq_eq_false_iff_ne.mpr c20
    have c20b1:(a2 != 1)=true:=bne_iff_ne.mpr c20
    by_cases c24:a2=5
    ·
     rw [if_pos c24] at H
     have c24b0:(a2 == 5)=true:=beq_iff_eq.mpr c24
     have c24b1:(a2 != 5)=false:=bne_eq_false_iff_eq.mpr c24
     clear c24
     by_cases c25:a3 < 0
     ·
      rw [if_pos c25] at H
      have c25b0:decide (a3 < 0)=true:=decide_eq_true c25
      clear c25
      have H':=Aside0.mk H
      clear H
      go_wp2
      go_meet
      case rel=>exact ⟨_,(true),(by first|rfl|(simp;done)|(simp [*];done)),H',⟨by first|omega|exact Nat.le_refl _⟩,⟨by (with_reducible repeat (first|apply Kd.R_alloc|apply Kd.R_drewN|apply Kd.R_drew));exact HO0_2.out⟩,⟨by (with_reducible repeat (first|apply Kd.R_alloc|apply Kd.R_drewN|apply Kd.R_drew));exact HO0_3.out⟩,⟨by (with_reducible repeat (first|refine blk_drewN ?_ _|refine blk_drew ?_|refine blk_alloc ?_ _));exact BK1.out⟩,⟨by (with_reducible repeat (first|refine blk_drewN ?_ _|refine blk_drew ?_|refine blk_alloc ?_ _));exact BK2.out⟩,⟨by repeat (first|(with_reducible first|exact HK.out|apply Kept.alloc|apply Kept.drewN|apply Kept.drew|refine Kept.setCell ?_ (.inr GW1.out) _|refine Kept.setCell ?_ (.inr GW2.out) _)|exact HK.out)⟩,⟨by repeat (first|(with_reducible first|exact HB.out|apply below_alloc|apply pw_below_drewN|apply below_drew1|refine below_set ?_ GE1.out|refine below_set ?_ GE2.out)|exact HB.out)⟩⟩
     ·
      rw [if_neg c25] at H
      have c25b0:decide (a3 < 0)=false:=decide_eq_false c25
      clear c25
      have H':=Aside0.mk H
      clear H
      go_wp2
      go_meet
      case rel=>exact ⟨_,(decide (a3 > 1099511627776)),(by first|rfl|(simp;done)|(simp [*];done)),H',⟨by first|omega|exact Nat.le_refl _⟩,⟨by (with_reducible repeat (first|apply Kd.R_alloc|apply Kd.R_drewN|apply Kd.R_drew));exact HO0_2.out⟩,⟨by (with_reducible repeat (first|apply Kd.R_alloc|apply Kd.R_drewN|apply Kd.R_drew));exact HO0_3.out⟩,⟨by (with_reducible repeat (first|refine blk_drewN ?_ _|refine blk_drew ?_|refine blk_alloc ?_ _));exact BK1.out⟩,⟨by (with_reducible repeat (first|refine blk_drewN ?_ _|refine blk_drew ?_|refine blk_alloc ?_ _));exact BK2.out⟩,⟨by repeat (first|(with_reducible first|exact HK.out|apply Kept.alloc|apply Kept.drewN|apply Kept.drew|refine Kept.setCell ?_ (.inr GW1.out) _|refine Kept.setCell ?_ (.inr GW2.out) _)|exact HK.out)⟩,⟨by repeat (first|(with_reducible first|exact HB.out|apply below_alloc|apply pw_below_drewN|apply below_drew1|refine below_set ?_ GE1.out|refine below_set ?_ GE2.out)|exact HB.out)⟩⟩
    ·
     rw [if_neg c24] at H
     have c24b0:(a2 == 5)=false:=beq_eq_false_iff_ne.mpr c24
     have c24b1:(a2 != 5)=true:=bne_iff_ne.mpr c24
     have H':=Aside0.mk H
     clear H
     go_wp2
     go_meet
     case rel=>exact ⟨_,(false),(by first|rfl|(simp;done)|(simp [*];done)),H',⟨by first|omega|exact Nat.le_refl _⟩,⟨by (with_reducible repeat (first|apply Kd.R_alloc|apply Kd.R_drewN|apply Kd.R_drew));exact HO0_2.out⟩,⟨by (with_reducible repeat (first|apply Kd.R_alloc|apply Kd.R_drewN|apply Kd.R_drew));exact HO0_3.out⟩,⟨by (with_reducible repeat (first|refine blk_drewN ?_ _|refine blk_drew ?_|refine blk_alloc ?_ _));exact BK1.out⟩,⟨by (with_reducible repeat (first|refine blk_drewN ?_ _|refine blk_drew ?_|refine blk_alloc ?_ _));exact BK2.out⟩,⟨by repeat (first|(with_reducible first|exact HK.out|apply Kept.alloc|apply Kept.drewN|apply Kept.drew|refine Kept.setCell ?_ (.inr GW1.out) _|refine Kept.setCell ?_ (.inr GW2.out) _)|exact HK.out)⟩,⟨by repeat (first|(with_reducible first|exact HB.out|apply below_alloc|apply pw_below_drewN|apply below_drew1|refine below_set ?_ GE1.out|refine below_set ?_ GE2.out)|exact HB.out)⟩⟩
 case rest =>
  clear HC6
  try clear c1
  try clear c2
  try clear p2
  try clear c7
  try clear c11
  try clear c11b0
  try clear c11b1
  try clear c13
  try clear c14
  try clear c14b0
  try clear c14b1
  try clear c15
  try clear c15b0
  try clear c15b1
  try clear c16
  try clear c16b0
  try clear c16b1
  try clear c17
  try clear c17b0
  try clear c18
  try clear c18b0
  try clear c18b1
  try clear c19
  try clear c19b0
  try clear c20
  try clear c20b0
  try clear c20b1
  try clear c21
  try clear c21b0
  try clear c21b1
  try clear c22
  try clear c22b0
  try clear c22b1
  try clear c23
  try clear c23b0
  try clear c24
  try clear c24b0
  try clear c24b1
  try clear c25
  try clear c25b0
  obtain ⟨kq,x41_5,rfl,HA,HJ5,HO_2002,HO_2003,BK1,BK2,HK,HB⟩:=hcut
  cases kq with
  | zero=>exact absurd HA.out (by simp [mosaicref18_Table_Set.j0])
  | succ kj5 =>
   have H:=HA.out
   clear HA
   simp only [mosaicref18_Table_Set.j0] at H
   by_cases c26:x41_5=true
   ·
    subst c26
    have H1:(some (a0_0,a0_1,l0_2,l0_3,1))=some (r1,r2,r3,r4,r5):=by rw [if_pos rfl] at H;exact H
    clear H
    have H:=H1
    clear H1
    simp only [Option.some.injEq,Prod.mk.injEq] at H
    obtain ⟨rfl,rfl,rfl,rfl,rfl⟩:=H
    have hnb27:=NB1_2.out
    have hnc27:=NB2_1.out
    have hcz28_0:wc.cell? ⟨gb1,0,none⟩=some (.int .i64 a0_0):=(blk_cell BK1.out 0).trans rfl
    have hcz28_1:wc.cell? ⟨gb1,1,none⟩=some (.int .i64 a0_1):=(blk_cell BK1.out 1).trans rfl
    have hcz28_2:wc.cell? ⟨gb1,2,none⟩=some (.slice Ao7 l0_2.length co7):=(blk_cell BK1.out 2).trans rfl
    have hcz28_3:wc.cell? ⟨gb1,3,none⟩=some (.slice Ao8 l0_3.length co8):=(blk_cell BK1.out 3).trans rfl
    have hfz28_0:=blk_frozen BK1.out 0
    have hfz28_1:=blk_frozen BK1.out 1
    have hfz28_2:=blk_frozen BK1.out 2
    have hfz28_3:=blk_frozen BK1.out 3
    have hcz29_0:wc.cell? ⟨gb2,0,none⟩=some (.int .i64 0):=(blk_cell BK2.out 0).trans rfl
    have hcz29_1:wc.cell? ⟨gb2,1,none⟩=some (.int .i64 0):=(blk_cell BK2.out 1).trans rfl
    have hcz29_2:wc.cell? ⟨gb2,2,none⟩=some (.slice none 0 0):=(blk_cell BK2.out 2).trans rfl
    have hcz29_3:wc.cell? ⟨gb2,3,none⟩=some (.slice none 0 0):=(blk_cell BK2.out 3).trans rfl
    have hfz29_0:=blk_frozen BK2.out 0
    have hfz29_1:=blk_frozen BK2.out 1
    have hfz29_2:=blk_frozen BK2.out 2
    have hfz29_3:=blk_frozen BK2.out 3
    go_wp2
    refine bodyPost_ret (results_ct rfl _ _ gb2 45 #[.int .i64 a0_0,.int .i64 a0_1,.slice Ao7 l0_2.length co7,.slice Ao8 l0_3.length co8] (0,0) _ rfl (by (with_reducible repeat (first|refine blk_drewN ?_ _|refine blk_drew ?_|refine blk_alloc ?_ _));refine blk_put (cs:=#[.int .i64 a0_0,.int .i64 a0_1,.slice Ao7 l0_2.length co7,.slice none 0 0]) ?_ 3 _ rfl;(with_reducible repeat (first|refine blk_drewN ?_ _|refine blk_drew ?_|refine blk_alloc ?_ _));refine blk_put (cs:=#[.int .i64 a0_0,.int .i64 a0_1,.slice none 0 0,.slice none 0 0]) ?_ 2 _ rfl;(with_reducible repeat (first|refine blk_drewN ?_ _|refine blk_drew ?_|refine blk_alloc ?_ _));refine blk_put (cs:=#[.int .i64 a0_0,.int .i64 0,.slice none 0 0,.slice none 0 0]) ?_ 1 _ rfl;(with_reducible repeat (first|refine blk_drewN ?_ _|refine blk_drew ?_|refine blk_alloc ?_ _));refine blk_put (cs:=#[.int .i64 0,.int .i64 0,.slice none 0 0,.slice none 0 0]) ?_ 0 _ rfl;(with_reducible repeat (first|refine blk_drewN ?_ _|refine blk_drew ?_|refine blk_alloc ?_ _));exact BK2.out) Try.underlying45 rfl (by kernel_rfl)) rfl ?_
    exact ⟨_,_,by first|rfl|(simp [errW_none,errW_some] <;> rfl)|(simp [*,errW_none,errW_some] <;> rfl),by (with_reducible repeat (first|apply Kd.R_alloc|apply Kd.R_drewN|apply Kd.R_drew));exact Kd.R_mono (Kd.R_far (p:=⟨gb2,3,none⟩) (Kd.R_far (p:=⟨gb2,2,none⟩) (Kd.R_far (p:=⟨gb2,1,none⟩) (Kd.R_far (p:=⟨gb2,0,none⟩) (Kd.R_types HO_2002.out BK2.out (by decide)) (fun _ hk=>hk.2) (.int .i64 a0_0)) (fun _ hk=>hk.2) (.int .i64 a0_1)) (fun _ hk=>hk.2) (.slice Ao7 l0_2.length co7)) (fun _ hk=>hk.2) (.slice Ao8 l0_3.length co8)) (fun _ hk=>hk.1),by (with_reducible repeat (first|apply Kd.R_alloc|apply Kd.R_drewN|apply Kd.R_drew));exact Kd.R_mono (Kd.R_far (p:=⟨gb2,3,none⟩) (Kd.R_far (p:=⟨gb2,2,none⟩) (Kd.R_far (p:=⟨gb2,1,none⟩) (Kd.R_far (p:=⟨gb2,0,none⟩) (Kd.R_types HO_2003.out BK2.out (by decide)) (fun _ hk=>hk.2) (.int .i64 a0_0)) (fun _ hk=>hk.2) (.int .i64 a0_1)) (fun _ hk=>hk.2) (.slice Ao7 l0_2.length co7)) (fun _ hk=>hk.2) (.slice Ao8 l0_3.length co8)) (fun _ hk=>hk.1),by repeat (first|(with_reducible first|exact HB.out|apply below_alloc|apply pw_below_drewN|apply below_drew1|refine below_set ?_ GE1.out|refine below_set ?_ GE2.out)|exact HB.out),by repeat (first|(with_reducible first|exact HK.out|apply Kept.alloc|apply Kept.drewN|apply Kept.drew|refine Kept.setCell ?_ (.inr GW1.out) _|refine Kept.setCell ?_ (.inr GW2.out) _)|exact HK.out)⟩
   ·
    replace c26:=Bool.eq_false_iff.mpr c26
    subst c26
    have H1:((mosaicref18_Table_Find.f kj5 a0_0 a0_1 l0_2 l0_3 a1).bind fun t4=>(if t4 < 0 then (some (a0_0,a0_1,l0_2,l0_3,4)) else (if 0≤t4 then (if t4 < (l0_2.length:Int) then (if a2=0 then (mosaicref18_Table_Set.j1 kj5 a2 a3 a4 (decide (a3 > ((rd_T56 l0_2 t4).f6))) a0_0 a0_1 l0_2 l0_3 ((rd_T56 l0_2 t4).f0) ((rd_T56 l0_2 t4).f1.f0) ((rd_T56 l0_2 t4).f1.f1) ((rd_T56 l0_2 t4).f2) ((rd_T56 l0_2 t4).f3) ((rd_T56 l0_2 t4).f4) ((rd_T56 l0_2 t4).f5) ((rd_T56 l0_2 t4).f6) ((rd_T56 l0_2 t4).f7) ((rd_T56 l0_2 t4).f8)) else (mosaicref18_Table_Set.j1 kj5 a2 a3 a4 false a0_0 a0_1 l0_2 l0_3 ((rd_T56 l0_2 t4).f0) ((rd_T56 l0_2 t4).f1.f0) ((rd_T56 l0_2 t4).f1.f1) ((rd_T56 l0_2 t4).f2) ((rd_T56 l0_2 t4).f3) ((rd_T56 l0_2 t4).f4) ((rd_T56 l0_2 t4).f5) ((rd_T56 l0_2 t4).f6) ((rd_T56 l0_2 t4).f7) ((rd_T56 l0_2 t4).f8))) else (none)) else (none))))=some (r1,r2,r3,r4,r5):=by rw [if_neg (show ¬ (false=true) by decide)] at H;exact H
    clear H
    have H:=H1
    clear H1
    replace H:=Option.bind_eq_some_iff.mp H
    obtain ⟨t4,A300,H⟩:=H
    replace H:(if t4 < 0 then (some (a0_0,a0_1,l0_2,l0_3,4)) else (if 0≤t4 then (if t4 < (l0_2.length:Int) then (if a2=0 then (mosaicref18_Table_Set.j1 kj5 a2 a3 a4 (decide (a3 > ((rd_T56 l0_2 t4).f6))) a0_0 a0_1 l0_2 l0_3 ((rd_T56 l0_2 t4).f0) ((rd_T56 l0_2 t4).f1.f0) ((rd_T56 l0_2 t4).f1.f1) ((rd_T56 l0_2 t4).f2) ((rd_T56 l0_2 t4).f3) ((rd_T56 l0_2 t4).f4) ((rd_T56 l0_2 t4).f5) ((rd_T56 l0_2 t4).f6) ((rd_T56 l0_2 t4).f7) ((rd_T56 l0_2 t4).f8)) else (mosaicref18_Table_Set.j1 kj5 a2 a3 a4 false a0_0 a0_1 l0_2 l0_3 ((rd_T56 l0_2 t4).f0) ((rd_T56 l0_2 t4).f1.f0) ((rd_T56 l0_2 t4).f1.f1) ((rd_T56 l0_2 t4).f2) ((rd_T56 l0_2 t4).f3) ((rd_T56 l0_2 t4).f4) ((rd_T56 l0_2 t4).f5) ((rd_T56 l0_2 t4).f6) ((rd_T56 l0_2 t4).f7) ((rd_T56 l0_2 t4).f8))) else (none)) else (none)))=some (r1,r2,r3,r4,r5):=H
    have A30:=Aside0.mk A300
    clear A300
    by_cases c31:t4 < 0
    ·
     rw [if_pos c31] at H
     have c31b0:decide (t4 < 0)=true:=decide_eq_true c31
     clear c31
     simp only [Option.some.injEq,Prod.mk.injEq] at H
     obtain ⟨rfl,rfl,rfl,rfl,rfl⟩:=H
     have hnb32:=NB1_2.out
     have hnc32:=NB2_1.out
     have hcz33_0:wc.cell? ⟨gb1,0,none⟩=some (.int .i64 a0_0):=(blk_cell BK1.out 0).trans rfl
     have hcz33_1:wc.cell? ⟨gb1,1,none⟩=some (.int .i64 a0_1):=(blk_cell BK1.out 1).trans rfl
     have hcz33_2:wc.cell? ⟨gb1,2,none⟩=some (.slice Ao7 l0_2.length co7):=(blk_cell BK1.out 2).trans rfl
     have hcz33_3:wc.cell? ⟨gb1,3,none⟩=some (.slice Ao8 l0_3.length co8):=(blk_cell BK1.out 3).trans rfl
     have hfz33_0:=blk_frozen BK1.out 0
     have hfz33_1:=blk_frozen BK1.out 1
     have hfz33_2:=blk_frozen BK1.out 2
     have hfz33_3:=blk_frozen BK1.out 3
     go_wp2_with (first|((with_reducible refine gate_callee (f:=26) rfl ?_);refine goesL_ (some 45) rfl rfl Try.func26 (by kernel_rfl) rfl #[.agg #[.int .i64 a0_0,.int .i64 a0_1,.slice Ao7 l0_2.length co7,.slice Ao8 l0_3.length co8],.int .i64 a1] rfl (by (try simp only [List.map_toArray,List.map_cons,List.map_nil]);first|done|rfl|(simp only [List.length_drop,List.length_take];rfl)) ?_;(with_reducible refine (mosaicref18_Table_Find.calls kj5 a0_0 a0_1 _ _ l0_2 _ _ l0_3 a1 t4 _ ?side1 ?side2 ?side3 ?side4 A30.out).mono ?_);(case side1=>repeat (first|exact (Kd.R_reads' HO_2002.out).2.2|(with_reducible refine Kd.C_alloc ?_ _)|(with_reducible refine Kd.C_drewN ?_ _)|(with_reducible refine Kd.C_drew ?_)));(case side2=>exact (Kd.R_reads' HO_2002.out).2.1);(case side3=>repeat (first|exact (Kd.R_reads' HO_2003.out).2.2|(with_reducible refine Kd.C_alloc ?_ _)|(with_reducible refine Kd.C_drewN ?_ _)|(with_reducible refine Kd.C_drew ?_)));(case side4=>exact (Kd.R_reads' HO_2003.out).2.1);rintro e w34 ⟨rfl,hb⟩;refine ⟨_,rfl,?_⟩;have n0_:=Aside0.mk (Kd.R_below (by (with_reducible repeat (first|apply Kd.R_alloc|apply Kd.R_drewN|apply Kd.R_drew));exact HO_2002.out) hb);have n1_:=Aside0.mk (Kd.R_below (by (with_reducible repeat (first|apply Kd.R_alloc|apply Kd.R_drewN|apply Kd.R_drew));exact HO_2003.out) hb);have n2_:=Aside0.mk (blk_below (g:=gb1) (o:=.cells #[.int .i64 a0_0,.int .i64 a0_1,.slice Ao7 l0_2.length co7,.slice Ao8 l0_3.length co8] 45 (0,0)) (by (with_reducible repeat (first|refine blk_drewN ?_ _|refine blk_drew ?_|refine blk_alloc ?_ _));exact BK1.out) hb);have n3_:=Aside0.mk (blk_below (g:=gb2) (o:=.cells #[.int .i64 0,.int .i64 0,.slice none 0 0,.slice none 0 0] 45 (0,0)) (by (with_reducible repeat (first|refine blk_drewN ?_ _|refine blk_drew ?_|refine blk_alloc ?_ _));exact BK2.out) hb);have n4_:=Aside0.mk (Kept.below (S:=(fun k_=>P0_2_ k_∨P0_3_ k_)) (by repeat (first|(with_reducible first|exact HK.out|apply Kept.alloc|apply Kept.drewN|apply Kept.drew|refine Kept.setCell ?_ (.inr GW1.out) _|refine Kept.setCell ?_ (.inr GW2.out) _)|exact HK.out)) hb);have n5_:=Aside0.mk (below_step (by repeat (first|(with_reducible first|exact HB.out|apply below_alloc|apply pw_below_drewN|apply below_drew1|refine below_set ?_ GE1.out|refine below_set ?_ GE2.out)|exact HB.out)) hb);clear HO_2002;clear HO_2003;clear BK1;clear BK2;clear HK;clear HB;have HO_2002:=n0_;have HO_2003:=n1_;have BK1:=n2_;have BK2:=n3_;have HK:=n4_;have HB:=n5_;clear n0_ n1_ n2_ n3_ n4_ n5_;(try clear hb);(try clear hb2);(try clear hk);(try clear hi);have hcz35_0:w34.cell? ⟨gb1,0,none⟩=some (.int .i64 a0_0):=(blk_cell BK1.out 0).trans rfl;have hcz35_1:w34.cell? ⟨gb1,1,none⟩=some (.int .i64 a0_1):=(blk_cell BK1.out 1).trans rfl;have hcz35_2:w34.cell? ⟨gb1,2,none⟩=some (.slice Ao7 l0_2.length co7):=(blk_cell BK1.out 2).trans rfl;have hcz35_3:w34.cell? ⟨gb1,3,none⟩=some (.slice Ao8 l0_3.length co8):=(blk_cell BK1.out 3).trans rfl;have hfz35_0:=blk_frozen BK1.out 0;have hfz35_1:=blk_frozen BK1.out 1;have hfz35_2:=blk_frozen BK1.out 2;have hfz35_3:=blk_frozen BK1.out 3;have hcz36_0:w34.cell? ⟨gb2,0,none⟩=some (.int .i64 0):=(blk_cell BK2.out 0).trans rfl;have hcz36_1:w34.cell? ⟨gb2,1,none⟩=some (.int .i64 0):=(blk_cell BK2.out 1).trans rfl;have hcz36_2:w34.cell? ⟨gb2,2,none⟩=some (.slice none 0 0):=(blk_cell BK2.out 2).trans rfl;have hcz36_3:w34.cell? ⟨gb2,3,none⟩=some (.slice none 0 0):=(blk_cell BK2.out 3).trans rfl;have hfz36_0:=blk_frozen BK2.out 0;have hfz36_1:=blk_frozen BK2.out 1;have hfz36_2:=blk_frozen BK2.out 2;have hfz36_3:=blk_frozen BK2.out 3))
     refine bodyPost_ret (results_ct rfl _ _ gb2 45 #[.int .i64 a0_0,.int .i64 a0_1,.slice Ao7 l0_2.length co7,.slice Ao8 l0_3.length co8] (0,0) _ rfl (by (with_reducible repeat (first|refine blk_drewN ?_ _|refine blk_drew ?_|refine blk_alloc ?_ _));refine blk_put (cs:=#[.int .i64 a0_0,.int .i64 a0_1,.slice Ao7 l0_2.length co7,.slice none 0 0]) ?_ 3 _ rfl;(with_reducible repeat (first|refine blk_drewN ?_ _|refine blk_drew ?_|refine blk_alloc ?_ _));refine blk_put (cs:=#[.int .i64 a0_0,.int .i64 a0_1,.slice none 0 0,.slice none 0 0]) ?_ 2 _ rfl;(with_reducible repeat (first|refine blk_drewN ?_ _|refine blk_drew ?_|refine blk_alloc ?_ _));refine blk_put (cs:=#[.int .i64 a0_0,.int .i64 0,.slice none 0 0,.slice none 0 0]) ?_ 1 _ rfl;(with_reducible repeat (first|refine blk_drewN ?_ _|refine blk_drew ?_|refine blk_alloc ?_ _));refine blk_put (cs:=#[.int .i64 0,.int .i64 0,.slice none 0 0,.slice none 0 0]) ?_ 0 _ rfl;(with_reducible repeat (first|refine blk_drewN ?_ _|refine blk_drew ?_|refine blk_alloc ?_ _));exact BK2.out) Try.underlying45 rfl (by kernel_rfl)) rfl ?_
     exact ⟨_,_,by first|rfl|(simp [errW_none,errW_some] <;> rfl)|(simp [*,errW_none,errW_some] <;> rfl),by (with_reducible repeat (first|apply Kd.R_alloc|apply Kd.R_drewN|apply Kd.R_drew));exact Kd.R_mono (Kd.R_far (p:=⟨gb2,3,none⟩) (Kd.R_far (p:=⟨gb2,2,none⟩) (Kd.R_far (p:=⟨gb2,1,none⟩) (Kd.R_far (p:=⟨gb2,0,none⟩) (Kd.R_types HO_2002.out BK2.out (by decide)) (fun _ hk=>hk.2) (.int .i64 a0_0)) (fun _ hk=>hk.2) (.int .i64 a0_1)) (fun _ hk=>hk.2) (.slice Ao7 l0_2.length co7)) (fun _ hk=>hk.2) (.slice Ao8 l0_3.length co8)) (fun _ hk=>hk.1),by (with_reducible repeat (first|apply Kd.R_alloc|apply Kd.R_drewN|apply Kd.R_drew));exact Kd.R_mono (Kd.R_far (p:=⟨gb2,3,none⟩) (Kd.R_far (p:=⟨gb2,2,none⟩) (Kd.R_far (p:=⟨gb2,1,none⟩) (Kd.R_far (p:=⟨gb2,0,none⟩) (Kd.R_types HO_2003.out BK2.out (by decide)) (fun _ hk=>hk.2) (.int .i64 a0_0)) (fun _ hk=>hk.2) (.int .i64 a0_1)) (fun _ hk=>hk.2) (.slice Ao7 l0_2.length co7)) (fun _ hk=>hk.2) (.slice Ao8 l0_3.length co8)) (fun _ hk=>hk.1),by repeat (first|(with_reducible first|exact HB.out|apply below_alloc|apply pw_below_drewN|apply below_drew1|refine below_set ?_ GE1.out|refine below_set ?_ GE2.out)|exact HB.out),by repeat (first|(with_reducible first|exact HK.out|apply Kept.alloc|apply Kept.drewN|apply Kept.drew|refine Kept.setCell ?_ (.inr GW1.out) _|refine Kept.setCell ?_ (.inr GW2.out) _)|exact HK.out)⟩
    ·
     rw [if_neg c31] at H
     have c31b0:decide (t4 < 0)=false:=decide_eq_false c31
     clear c31
     by_cases c37:0≤t4
     ·
      rw [if_pos c37] at H
      have c37b0:decide (0≤t4)=true:=decide_eq_true c37
      clear c37
      by_cases c38:t4 < (l0_2.length:Int)
      ·
       rw [if_pos c38] at H
       have c38b0:decide (t4 < (l0_2.length:Int))=true:=decide_eq_true c38
       clear c38
       have HC39:=Aside0.mk H
       clear H
       have hnb40:=NB1_2.out
       have hnc40:=NB2_1.out
       have hcz41_0:wc.cell? ⟨gb1,0,none⟩=some (.int .i64 a0_0):=(blk_cell BK1.out 0).trans rfl
       have hcz41_1:wc.cell? ⟨gb1,1,none⟩=some (.int .i64 a0_1):=(blk_cell BK1.out 1).trans rfl
       have hcz41_2:wc.cell? ⟨gb1,2,none⟩=some (.slice Ao7 l0_2.length co7):=(blk_cell BK1.out 2).trans rfl
       have hcz41_3:wc.cell? ⟨gb1,3,none⟩=some (.slice Ao8 l0_3.length co8):=(blk_cell BK1.out 3).trans rfl
       have hfz41_0:=blk_frozen BK1.out 0
       have hfz41_1:=blk_frozen BK1.out 1
       have hfz41_2:=blk_frozen BK1.out 2
       have hfz41_3:=blk_frozen BK1.out 3
       go_upto_region 7 with (first|((with_reducible refine gate_callee (f:=26) rfl ?_);refine goesL_ (some 45) rfl rfl Try.func26 (by kernel_rfl) rfl #[.agg #[.int .i64 a0_0,.int .i64 a0_1,.slice Ao7 l0_2.length co7,.slice Ao8 l0_3.length co8],.int .i64 a1] rfl (by (try simp only [List.map_toArray,List.map_cons,List.map_nil]);first|done|rfl|(simp only [List.length_drop,List.length_take];rfl)) ?_;(with_reducible refine (mosaicref18_Table_Find.calls kj5 a0_0 a0_1 _ _ l0_2 _ _ l0_3 a1 t4 _ ?side1 ?side2 ?side3 ?side4 A30.out).mono ?_);(case side1=>repeat (first|exact (Kd.R_reads' HO_2002.out).2.2|(with_reducible refine Kd.C_alloc ?_ _)|(with_reducible refine Kd.C_drewN ?_ _)|(with_reducible refine Kd.C_drew ?_)));(case side2=>exact (Kd.R_reads' HO_2002.out).2.1);(case side3=>repeat (first|exact (Kd.R_reads' HO_2003.out).2.2|(with_reducible refine Kd.C_alloc ?_ _)|(with_reducible refine Kd.C_drewN ?_ _)|(with_reducible refine Kd.C_drew ?_)));(case side4=>exact (Kd.R_reads' HO_2003.out).2.1);rintro e w42 ⟨rfl,hb⟩;refine ⟨_,rfl,?_⟩;have n0_:=Aside0.mk (Kd.R_below (by (with_reducible repeat (first|apply Kd.R_alloc|apply Kd.R_drewN|apply Kd.R_drew));exact HO_2002.out) hb);have n1_:=Aside0.mk (Kd.R_below (by (with_reducible repeat (first|apply Kd.R_alloc|apply Kd.R_drewN|apply Kd.R_drew));exact HO_2003.out) hb);have n2_:=Aside0.mk (blk_below (g:=gb1) (o:=.cells #[.int .i64 a0_0,.int .i64 a0_1,.slice Ao7 l0_2.length co7,.slice Ao8 l0_3.length co8] 45 (0,0)) (by (with_reducible repeat (first|refine blk_drewN ?_ _|refine blk_drew ?_|refine blk_alloc ?_ _));exact BK1.out) hb);have n3_:=Aside0.mk (blk_below (g:=gb2) (o:=.cells #[.int .i64 0,.int .i64 0,.slice none 0 0,.slice none 0 0] 45 (0,0)) (by (with_reducible repeat (first|refine blk_drewN ?_ _|refine blk_drew ?_|refine blk_alloc ?_ _));exact BK2.out) hb);have n4_:=Aside0.mk (Kept.below (S:=(fun k_=>P0_2_ k_∨P0_3_ k_)) (by repeat (first|(with_reducible first|exact HK.out|apply Kept.alloc|apply Kept.drewN|apply Kept.drew|refine Kept.setCell ?_ (.inr GW1.out) _|refine Kept.setCell ?_ (.inr GW2.out) _)|exact HK.out)) hb);have n5_:=Aside0.mk (below_step (by repeat (first|(with_reducible first|exact HB.out|apply below_alloc|apply pw_below_drewN|apply below_drew1|refine below_set ?_ GE1.out|refine below_set ?_ GE2.out)|exact HB.out)) hb);clear HO_2002;clear HO_2003;clear BK1;clear BK2;clear HK;clear HB;have HO_2002:=n0_;have HO_2003:=n1_;have BK1:=n2_;have BK2:=n3_;have HK:=n4_;have HB:=n5_;clear n0_ n1_ n2_ n3_ n4_ n5_;(try clear hb);(try clear hb2);(try clear hk);(try clear hi);have hcz43_0:w42.cell? ⟨gb1,0,none⟩=some (.int .i64 a0_0):=(blk_cell BK1.out 0).trans rfl;have hcz43_1:w42.cell? ⟨gb1,1,none⟩=some (.int .i64 a0_1):=(blk_cell BK1.out 1).trans rfl;have hcz43_2:w42.cell? ⟨gb1,2,none⟩=some (.slice Ao7 l0_2.length co7):=(blk_cell BK1.out 2).trans rfl;have hcz43_3:w42.cell? ⟨gb1,3,none⟩=some (.slice Ao8 l0_3.length co8):=(blk_cell BK1.out 3).trans rfl;have hfz43_0:=blk_frozen BK1.out 0;have hfz43_1:=blk_frozen BK1.out 1;have hfz43_2:=blk_frozen BK1.out 2;have hfz43_3:=blk_frozen BK1.out 3;have p5:0≤(t4:Int):=of_decide_eq_true (by first|(with_reducible assumption)|assumption);have q5:t4 < (l0_2.length:Int):=of_decide_eq_true (by first|(with_reducible assumption)|assumption);obtain ⟨ad5,e5,hx5_0,hx5_1,hx5_2,hx5_3,hx5_4,hx5_5,hx5_6,hx5_7,hx5_8,hx5_9⟩:=at_T56 (Kd.R_reads' HO_2002.out).2.2 t4 p5 q5;cases e5;replace p5:=eq_true p5;replace q5:=eq_true q5)|((with_reducible refine gate_dst (N:=13) rfl ?_);(try (refine gate_guard (by rfl) ?_;dsimp only));refine box_event ?hg (N:=13) ?hd (cs:=#[.int .i64 0,.int .i64 0,.int .i64 0,.string (⟨#[]⟩:ByteArray),.bool false,.bool false,.bool false,.int .i64 0,.int .i64 0,.int .i64 0]) (t:=56) ?hr ?_;(case hd=>rfl);(case hg=>rfl);(case hr=>first|(go_simp;done)|(go_simp;rfl));intro gb6 hg w44 hbox hb;have n0_:=Aside0.mk (Kd.R_below (Kd.R_elderB (by (with_reducible repeat (first|apply Kd.R_alloc|apply Kd.R_drewN|apply Kd.R_drew));exact HO_2002.out) gb6 (Nat.le_of_eq hg.symm)) hb);have n1_:=Aside0.mk (Kd.R_below (by (with_reducible repeat (first|apply Kd.R_alloc|apply Kd.R_drewN|apply Kd.R_drew));exact HO_2003.out) hb);have n2_:=Aside0.mk (blk_below (g:=gb1) (o:=.cells #[.int .i64 a0_0,.int .i64 a0_1,.slice (some ad5) l0_2.length co7,.slice Ao8 l0_3.length co8] 45 (0,0)) (by (with_reducible repeat (first|refine blk_drewN ?_ _|refine blk_drew ?_|refine blk_alloc ?_ _));exact BK1.out) hb);have n3_:=Aside0.mk (blk_below (g:=gb2) (o:=.cells #[.int .i64 0,.int .i64 0,.slice none 0 0,.slice none 0 0] 45 (0,0)) (by (with_reducible repeat (first|refine blk_drewN ?_ _|refine blk_drew ?_|refine blk_alloc ?_ _));exact BK2.out) hb);have n4_:=Aside0.mk (Kept.below (S:=(fun k_=>P0_2_ k_∨P0_3_ k_)) (by repeat (first|(with_reducible first|exact HK.out|apply Kept.alloc|apply Kept.drewN|apply Kept.drew|refine Kept.setCell ?_ (.inr GW1.out) _|refine Kept.setCell ?_ (.inr GW2.out) _)|exact HK.out)) hb);have n5_:=Aside0.mk (below_step (by repeat (first|(with_reducible first|exact HB.out|apply below_alloc|apply pw_below_drewN|apply below_drew1|refine below_set ?_ GE1.out|refine below_set ?_ GE2.out)|exact HB.out)) hb);have n6_:=Aside0.mk (hbox);have n7_:=Aside0.mk ((by rw [hg];exact (by first|exact HK.out.1|exact (show Kept w _ (fun k_=>P0_2_ k_∨P0_3_ k_) from by repeat (first|(with_reducible first|exact HK.out|apply Kept.alloc|apply Kept.drewN|apply Kept.drew|refine Kept.setCell ?_ (.inr GW1.out) _|refine Kept.setCell ?_ (.inr GW2.out) _)|exact HK.out)).1):w.heap.size≤gb6));have n8_:=Aside0.mk ((by rw [hg];exact (below_size (by repeat (first|(with_reducible first|exact HB.out|apply below_alloc|apply pw_below_drewN|apply below_drew1|refine below_set ?_ GE1.out|refine below_set ?_ GE2.out)|exact HB.out))):w0.heap.size≤gb6));have n9_:=Aside0.mk ((by rw [hg];exact Nat.ne_of_lt (blk_lt (g:=gb1) (o:=.cells #[.int .i64 a0_0,.int .i64 a0_1,.slice (some ad5) l0_2.length co7,.slice Ao8 l0_3.length co8] 45 (0,0)) (by (with_reducible repeat (first|refine blk_drewN ?_ _|refine blk_drew ?_|refine blk_alloc ?_ _));exact BK1.out)):gb1≠gb6));have n10_:=Aside0.mk ((by rw [hg];exact Nat.ne_of_gt (blk_lt (g:=gb1) (o:=.cells #[.int .i64 a0_0,.int .i64 a0_1,.slice (some ad5) l0_2.length co7,.slice Ao8 l0_3.length co8] 45 (0,0)) (by (with_reducible repeat (first|refine blk_drewN ?_ _|refine blk_drew ?_|refine blk_alloc ?_ _));exact BK1.out)):gb6≠gb1));have n11_:=Aside0.mk ((by rw [hg];exact Nat.ne_of_lt (blk_lt (g:=gb2) (o:=.cells #[.int .i64 0,.int .i64 0,.slice none 0 0,.slice none 0 0] 45 (0,0)) (by (with_reducible repeat (first|refine blk_drewN ?_ _|refine blk_drew ?_|refine blk_alloc ?_ _));exact BK2.out)):gb2≠gb6));have n12_:=Aside0.mk ((by rw [hg];exact Nat.ne_of_gt (blk_lt (g:=gb2) (o:=.cells #[.int .i64 0,.int .i64 0,.slice none 0 0,.slice none 0 0] 45 (0,0)) (by (with_reducible repeat (first|refine blk_drewN ?_ _|refine blk_drew ?_|refine blk_alloc ?_ _));exact BK2.out)):gb6≠gb2));clear HO_2002;clear HO_2003;clear BK1;clear BK2;clear HK;clear HB;have HO_2002:=n0_;have HO_2003:=n1_;have BK1:=n2_;have BK2:=n3_;have HK:=n4_;have HB:=n5_;have BK6:=n6_;have GW6:=n7_;have GE6:=n8_;have NB1_6:=n9_;have NB6_1:=n10_;have NB2_6:=n11_;have NB6_2:=n12_;clear n0_ n1_ n2_ n3_ n4_ n5_ n6_ n7_ n8_ n9_ n10_ n11_ n12_;clear hb hbox hg;have hnb45:=NB6_1.out;have hnc45:=NB1_6.out;have hnb46:=NB6_2.out;have hnc46:=NB2_6.out;have hcz47_0:w44.cell? ⟨gb6,0,none⟩=some (.int .i64 0):=(blk_cell BK6.out 0).trans rfl;have hcz47_1:w44.cell? ⟨gb6,1,none⟩=some (.int .i64 0):=(blk_cell BK6.out 1).trans rfl;have hcz47_2:w44.cell? ⟨gb6,2,none⟩=some (.int .i64 0):=(blk_cell BK6.out 2).trans rfl;have hcz47_3:w44.cell? ⟨gb6,3,none⟩=some (.string (⟨#[]⟩:ByteArray)):=(blk_cell BK6.out 3).trans rfl;have hcz47_4:w44.cell? ⟨gb6,4,none⟩=some (.bool false):=(blk_cell BK6.out 4).trans rfl;have hcz47_5:w44.cell? ⟨gb6,5,none⟩=some (.bool false):=(blk_cell BK6.out 5).trans rfl;have hcz47_6:w44.cell? ⟨gb6,6,none⟩=some (.bool false):=(blk_cell BK6.out 6).trans rfl;have hcz47_7:w44.cell? ⟨gb6,7,none⟩=some (.int .i64 0):=(blk_cell BK6.out 7).trans rfl;have hcz47_8:w44.cell? ⟨gb6,8,none⟩=some (.int .i64 0):=(blk_cell BK6.out 8).trans rfl;have hcz47_9:w44.cell? ⟨gb6,9,none⟩=some (.int .i64 0):=(blk_cell BK6.out 9).trans rfl;have hfz47_0:=blk_frozen BK6.out 0;have hfz47_1:=blk_frozen BK6.out 1;have hfz47_2:=blk_frozen BK6.out 2;have hfz47_3:=blk_frozen BK6.out 3;have hfz47_4:=blk_frozen BK6.out 4;have hfz47_5:=blk_frozen BK6.out 5;have hfz47_6:=blk_frozen BK6.out 6;have hfz47_7:=blk_frozen BK6.out 7;have hfz47_8:=blk_frozen BK6.out 8;have hfz47_9:=blk_frozen BK6.out 9))
       (try simp only [Act.put,List.setIfInBounds_toArray,List.set_cons_zero,List.set_cons_succ])
       go_cut [61] (fun v61 wc=>∃ (kq:Nat) (x61_38:Bool),v61=.bool x61_38∧Aside0 (mosaicref18_Table_Set.j1 kq a2 a3 a4 x61_38 a0_0 a0_1 l0_2 l0_3 ((rd_T56 l0_2 t4).f0) ((rd_T56 l0_2 t4).f1.f0) ((rd_T56 l0_2 t4).f1.f1) ((rd_T56 l0_2 t4).f2) ((rd_T56 l0_2 t4).f3) ((rd_T56 l0_2 t4).f4) ((rd_T56 l0_2 t4).f5) ((rd_T56 l0_2 t4).f6) ((rd_T56 l0_2 t4).f7) ((rd_T56 l0_2 t4).f8)=some (r1,r2,r3,r4,r5))∧Aside0 (kq≤kj5)∧Aside0 (Kd.R k56 56 wc w0.heap.size (fun k_=>((P0_2_ k_∨P0_3_ k_)∨w.heap.size≤k_)∧k_≠gb6) (.slice (some ad5) l0_2.length co7) l0_2)∧Aside0 (Kd.R (Kd.int .i64) 3 wc w0.heap.size (fun k_=>((P0_2_ k_∨P0_3_ k_)∨w.heap.size≤k_)) (.slice Ao8 l0_3.length co8) l0_3)∧Aside0 (wc.heap[gb1]?=some (.cells #[.int .i64 a0_0,.int .i64 a0_1,(.slice (some ad5) l0_2.length co7),(.slice Ao8 l0_3.length co8)] 45 (0,0)))∧Aside0 (wc.heap[gb2]?=some (.cells #[.int .i64 0,.int .i64 0,(.slice none 0 0),(.slice none 0 0)] 45 (0,0)))∧Aside0 (wc.heap[gb6]?=some (.cells #[.int .i64 ((rd_T56 l0_2 t4).f0),.int .i64 ((rd_T56 l0_2 t4).f1.f0),.int .i64 ((rd_T56 l0_2 t4).f1.f1),.string ((rd_T56 l0_2 t4).f2),.bool ((rd_T56 l0_2 t4).f3),.bool ((rd_T56 l0_2 t4).f4),.bool ((rd_T56 l0_2 t4).f5),.int .i64 ((rd_T56 l0_2 t4).f6),.int .i64 ((rd_T56 l0_2 t4).f7),.int .i64 ((rd_T56 l0_2 t4).f8)] 56 (0,0)))∧Aside0 (Kept w wc (fun k_=>P0_2_ k_∨P0_3_ k_))∧Aside0 (Below w0.heap.size w0 wc))
       case first =>
        have H:=HC39.out
        clear HC39
        by_cases c48:a2=0
        ·
         rw [if_pos c48] at H
         have c48b0:(a2 == 0)=true:=beq_iff_eq.mpr c48
         have c48b1:(a2 != 0)=false:=bne_eq_false_iff_eq.mpr c48
         clear c48
         (first|rw [c48b0]|(simp only [i64_w,i32_w];rw [c48b0])|skip)
         have H':=Aside0.mk H
         clear H
         have hnb49:=NB6_1.out
         have hnc49:=NB1_6.out
         have hnb50:=NB6_2.out
         have hnc50:=NB2_6.out
         have hcz51_0:w44.cell? ⟨gb6,0,none⟩=some (.int .i64 0):=(blk_cell BK6.out 0).trans rfl
         have hcz51_1:w44.cell? ⟨gb6,1,none⟩=some (.int .i64 0):=(blk_cell BK6.out 1).trans rfl
         have hcz51_2:w44.cell? ⟨gb6,2,none⟩=some (.int .i64 0):=(blk_cell BK6.out 2).trans rfl
         have hcz51_3:w44.cell? ⟨gb6,3,none⟩=some (.string (⟨#[]⟩:ByteArray)):=(blk_cell BK6.out 3).trans rfl
         have hcz51_4:w44.cell? ⟨gb6,4,none⟩=some (.bool false):=(blk_cell BK6.out 4).trans rfl
         have hcz51_5:w44.cell? ⟨gb6,5,none⟩=some (.bool false):=(blk_cell BK6.out 5).trans rfl
         have hcz51_6:w44.cell? ⟨gb6,6,none⟩=some (.bool false):=(blk_cell BK6.out 6).trans rfl
         have hcz51_7:w44.cell? ⟨gb6,7,none⟩=some (.int .i64 0):=(blk_cell BK6.out 7).trans rfl
         have hcz51_8:w44.cell? ⟨gb6,8,none⟩=some (.int .i64 0):=(blk_cell BK6.out 8).trans rfl
         have hcz51_9:w44.cell? ⟨gb6,9,none⟩=some (.int .i64 0):=(blk_cell BK6.out 9).trans rfl
         have hfz51_0:=blk_frozen BK6.out 0
         have hfz51_1:=blk_frozen BK6.out 1
         have hfz51_2:=blk_frozen BK6.out 2
         have hfz51_3:=blk_frozen BK6.out 3
         have hfz51_4:=blk_frozen BK6.out 4
         have hfz51_5:=blk_frozen BK6.out 5
         have hfz51_6:=blk_frozen BK6.out 6
         have hfz51_7:=blk_frozen BK6.out 7
         have hfz51_8:=blk_frozen BK6.out 8
         have hfz51_9:=blk_frozen BK6.out 9
         go_wp2
         go_meet
         case rel=>exact ⟨_,(decide (a3 > ((rd_T56 l0_2 t4).f6))),(by first|rfl|(simp;done)|(simp [*];done)),H',⟨by have:=HJ5.out;first|omega|exact Nat.le_refl _⟩,⟨by (with_reducible repeat (first|apply Kd.R_alloc|apply Kd.R_drewN|apply Kd.R_drew));exact Kd.R_mono (Kd.R_far (p:=⟨gb6,9,none⟩) (Kd.R_far (p:=⟨gb6,8,none⟩) (Kd.R_far (p:=⟨gb6,7,none⟩) (Kd.R_far (p:=⟨gb6,6,none⟩) (Kd.R_far (p:=⟨gb6,5,none⟩) (Kd.R_far (p:=⟨gb6,4,none⟩) (Kd.R_far (p:=⟨gb6,3,none⟩) (Kd.R_far (p:=⟨gb6,2,none⟩) (Kd.R_far (p:=⟨gb6,1,none⟩) (Kd.R_far (p:=⟨gb6,0,none⟩) (Kd.R_mono HO_2002.out (fun k_ hk=>(⟨hk,hk.2⟩:_∧k_≠gb6))) (fun _ hk=>hk.2) (.int .i64 ((rd_T56 l0_2 t4).f0))) (fun _ hk=>hk.2) (.int .i64 ((rd_T56 l0_2 t4).f1.f0))) (fun _ hk=>hk.2) (.int .i64 ((rd_T56 l0_2 t4).f1.f1))) (fun _ hk=>hk.2) (.string ((rd_T56 l0_2 t4).f2))) (fun _ hk=>hk.2) (.bool ((rd_T56 l0_2 t4).f3))) (fun _ hk=>hk.2) (.bool ((rd_T56 l0_2 t4).f4))) (fun _ hk=>hk.2) (.bool ((rd_T56 l0_2 t4).f5))) (fun _ hk=>hk.2) (.int .i64 ((rd_T56 l0_2 t4).f6))) (fun _ hk=>hk.2) (.int .i64 ((rd_T56 l0_2 t4).f7))) (fun _ hk=>hk.2) (.int .i64 ((rd_T56 l0_2 t4).f8))) (fun _ hk=>⟨hk.1.1,hk.1.2⟩)⟩,⟨by (with_reducible repeat (first|apply Kd.R_alloc|apply Kd.R_drewN|apply Kd.R_drew));exact Kd.R_mono (Kd.R_far (p:=⟨gb6,9,none⟩) (Kd.R_far (p:=⟨gb6,8,none⟩) (Kd.R_far (p:=⟨gb6,7,none⟩) (Kd.R_far (p:=⟨gb6,6,none⟩) (Kd.R_far (p:=⟨gb6,5,none⟩) (Kd.R_far (p:=⟨gb6,4,none⟩) (Kd.R_far (p:=⟨gb6,3,none⟩) (Kd.R_far (p:=⟨gb6,2,none⟩) (Kd.R_far (p:=⟨gb6,1,none⟩) (Kd.R_far (p:=⟨gb6,0,none⟩) (Kd.R_types HO_2003.out BK6.out (by decide)) (fun _ hk=>hk.2) (.int .i64 ((rd_T56 l0_2 t4).f0))) (fun _ hk=>hk.2) (.int .i64 ((rd_T56 l0_2 t4).f1.f0))) (fun _ hk=>hk.2) (.int .i64 ((rd_T56 l0_2 t4).f1.f1))) (fun _ hk=>hk.2) (.string ((rd_T56 l0_2 t4).f2))) (fun _ hk=>hk.2) (.bool ((rd_T56 l0_2 t4).f3))) (fun _ hk=>hk.2) (.bool ((rd_T56 l0_2 t4).f4))) (fun _ hk=>hk.2) (.bool ((rd_T56 l0_2 t4).f5))) (fun _ hk=>hk.2) (.int .i64 ((rd_T56 l0_2 t4).f6))) (fun _ hk=>hk.2) (.int .i64 ((rd_T56 l0_2 t4).f7))) (fun _ hk=>hk.2) (.int .i64 ((rd_T56 l0_2 t4).f8))) (fun _ hk=>hk.1)⟩,⟨by (with_reducible repeat (first|refine blk_drewN ?_ _|refine blk_drew ?_|refine blk_alloc ?_ _));refine blk_far ?_ NB1_6.out _;(with_reducible repeat (first|refine blk_drewN ?_ _|refine blk_drew ?_|refine blk_alloc ?_ _));refine blk_far ?_ NB1_6.out _;(with_reducible repeat (first|refine blk_drewN ?_ _|refine blk_drew ?_|refine blk_alloc ?_ _));refine blk_far ?_ NB1_6.out _;(with_reducible repeat (first|refine blk_drewN ?_ _|refine blk_drew ?_|refine blk_alloc ?_ _));refine blk_far ?_ NB1_6.out _;(with_reducible repeat (first|refine blk_drewN ?_ _|refine blk_drew ?_|refine blk_alloc ?_ _));refine blk_far ?_ NB1_6.out _;(with_reducible repeat (first|refine blk_drewN ?_ _|refine blk_drew ?_|refine blk_alloc ?_ _));refine blk_far ?_ NB1_6.out _;(with_reducible repeat (first|refine blk_drewN ?_ _|refine blk_drew ?_|refine blk_alloc ?_ _));refine blk_far ?_ NB1_6.out _;(with_reducible repeat (first|refine blk_drewN ?_ _|refine blk_drew ?_|refine blk_alloc ?_ _));refine blk_far ?_ NB1_6.out _;(with_reducible repeat (first|refine blk_drewN ?_ _|refine blk_drew ?_|refine blk_alloc ?_ _));refine blk_far ?_ NB1_6.out _;(with_reducible repeat (first|refine blk_drewN ?_ _|refine blk_drew ?_|refine blk_alloc ?_ _));refine blk_far ?_ NB1_6.out _;(with_reducible repeat (first|refine blk_drewN ?_ _|refine blk_drew ?_|refine blk_alloc ?_ _));exact BK1.out⟩,⟨by (with_reducible repeat (first|refine blk_drewN ?_ _|refine blk_drew ?_|refine blk_alloc ?_ _));refine blk_far ?_ NB2_6.out _;(with_reducible repeat (first|refine blk_drewN ?_ _|refine blk_drew ?_|refine blk_alloc ?_ _));refine blk_far ?_ NB2_6.out _;(with_reducible repeat (first|refine blk_drewN ?_ _|refine blk_drew ?_|refine blk_alloc ?_ _));refine blk_far ?_ NB2_6.out _;(with_reducible repeat (first|refine blk_drewN ?_ _|refine blk_drew ?_|refine blk_alloc ?_ _));refine blk_far ?_ NB2_6.out _;(with_reducible repeat (first|refine blk_drewN ?_ _|refine blk_drew ?_|refine blk_alloc ?_ _));refine blk_far ?_ NB2_6.out _;(with_reducible repeat (first|refine blk_drewN ?_ _|refine blk_drew ?_|refine blk_alloc ?_ _));refine blk_far ?_ NB2_6.out _;(with_reducible repeat (first|refine blk_drewN ?_ _|refine blk_drew ?_|refine blk_alloc ?_ _));refine blk_far ?_ NB2_6.out _;(with_reducible repeat (first|refine blk_drewN ?_ _|refine blk_drew ?_|refine blk_alloc ?_ _));refine blk_far ?_ NB2_6.out _;(with_reducible repeat (first|refine blk_drewN ?_ _|refine blk_drew ?_|refine blk_alloc ?_ _));refine blk_far ?_ NB2_6.out _;(with_reducible repeat (first|refine blk_drewN ?_ _|refine blk_drew ?_|refine blk_alloc ?_ _));refine blk_far ?_ NB2_6.out _;(with_reducible repeat (first|refine blk_drewN ?_ _|refine blk_drew ?_|refine blk_alloc ?_ _));exact BK2.out⟩,⟨by (with_reducible repeat (first|refine blk_drewN ?_ _|refine blk_drew ?_|refine blk_alloc ?_ _));refine blk_put (cs:=#[.int .i64 ((rd_T56 l0_2 t4).f0),.int .i64 ((rd_T56 l0_2 t4).f1.f0),.int .i64 ((rd_T56 l0_2 t4).f1.f1),.string ((rd_T56 l0_2 t4).f2),.bool ((rd_T56 l0_2 t4).f3),.bool ((rd_T56 l0_2 t4).f4),.bool ((rd_T56 l0_2 t4).f5),.int .i64 ((rd_T56 l0_2 t4).f6),.int .i64 ((rd_T56 l0_2 t4).f7),.int .i64 0]) ?_ 9 _ rfl;(with_reducible repeat (first|refine blk_drewN ?_ _|refine blk_drew ?_|refine blk_alloc ?_ _));refine blk_put (cs:=#[.int .i64 ((rd_T56 l0_2 t4).f0),.int .i64 ((rd_T56 l0_2 t4).f1.f0),.int .i64 ((rd_T56 l0_2 t4).f1.f1),.string ((rd_T56 l0_2 t4).f2),.bool ((rd_T56 l0_2 t4).f3),.bool ((rd_T56 l0_2 t4).f4),.bool ((rd_T56 l0_2 t4).f5),.int .i64 ((rd_T56 l0_2 t4).f6),.int .i64 0,.int .i64 0]) ?_ 8 _ rfl;(with_reducible repeat (first|refine blk_drewN ?_ _|refine blk_drew ?_|refine blk_alloc ?_ _));refine blk_put (cs:=#[.int .i64 ((rd_T56 l0_2 t4).f0),.int .i64 ((rd_T56 l0_2 t4).f1.f0),.int .i64 ((rd_T56 l0_2 t4).f1.f1),.string ((rd_T56 l0_2 t4).f2),.bool ((rd_T56 l0_2 t4).f3),.bool ((rd_T56 l0_2 t4).f4),.bool ((rd_T56 l0_2 t4).f5),.int .i64 0,.int .i64 0,.int .i64 0]) ?_ 7 _ rfl;(with_reducible repeat (first|refine blk_drewN ?_ _|refine blk_drew ?_|refine blk_alloc ?_ _));refine blk_put (cs:=#[.int .i64 ((rd_T56 l0_2 t4).f0),.int .i64 ((rd_T56 l0_2 t4).f1.f0),.int .i64 ((rd_T56 l0_2 t4).f1.f1),.string ((rd_T56 l0_2 t4).f2),.bool ((rd_T56 l0_2 t4).f3),.bool ((rd_T56 l0_2 t4).f4),.bool false,.int .i64 0,.int .i64 0,.int .i64 0]) ?_ 6 _ rfl;(with_reducible repeat (first|refine blk_drewN ?_ _|refine blk_drew ?_|refine blk_alloc ?_ _));refine blk_put (cs:=#[.int .i64 ((rd_T56 l0_2 t4).f0),.int .i64 ((rd_T56 l0_2 t4).f1.f0),.int .i64 ((rd_T56 l0_2 t4).f1.f1),.string ((rd_T56 l0_2 t4).f2),.bool ((rd_T56 l0_2 t4).f3),.bool false,.bool false,.int .i64 0,.int .i64 0,.int .i64 0]) ?_ 5 _ rfl;(with_reducible repeat (first|refine blk_drewN ?_ _|refine blk_drew ?_|refine blk_alloc ?_ _));refine blk_put (cs:=#[.int .i64 ((rd_T56 l0_2 t4).f0),.int .i64 ((rd_T56 l0_2 t4).f1.f0),.int .i64 ((rd_T56 l0_2 t4).f1.f1),.string ((rd_T56 l0_2 t4).f2),.bool false,.bool false,.bool false,.int .i64 0,.int .i64 0,.int .i64 0]) ?_ 4 _ rfl;(with_reducible repeat (first|refine blk_drewN ?_ _|refine blk_drew ?_|refine blk_alloc ?_ _));refine blk_put (cs:=#[.int .i64 ((rd_T56 l0_2 t4).f0),.int .i64 ((rd_T56 l0_2 t4).f1.f0),.int .i64 ((rd_T56 l0_2 t4).f1.f1),.string (⟨#[]⟩:ByteArray),.bool false,.bool false,.bool false,.int .i64 0,.int .i64 0,.int .i64 0]) ?_ 3 _ rfl;(with_reducible repeat (first|refine blk_drewN ?_ _|refine blk_drew ?_|refine blk_alloc ?_ _));refine blk_put (cs:=#[.int .i64 ((rd_T56 l0_2 t4).f0),.int .i64 ((rd_T56 l0_2 t4).f1.f0),.int .i64 0,.string (⟨#[]⟩:ByteArray),.bool false,.bool false,.bool false,.int .i64 0,.int .i64 0,.int .i64 0]) ?_ 2 _ rfl;(with_reducible repeat (first|refine blk_drewN ?_ _|refine blk_drew ?_|refine blk_alloc ?_ _));refine blk_put (cs:=#[.int .i64 ((rd_T56 l0_2 t4).f0),.int .i64 0,.int .i64 0,.string (⟨#[]⟩:ByteArray),.bool false,.bool false,.bool false,.int .i64 0,.int .i64 0,.int .i64 0]) ?_ 1 _ rfl;(with_reducible repeat (first|refine blk_drewN ?_ _|refine blk_drew ?_|refine blk_alloc ?_ _));refine blk_put (cs:=#[.int .i64 0,.int .i64 0,.int .i64 0,.string (⟨#[]⟩:ByteArray),.bool false,.bool false,.bool false,.int .i64 0,.int .i64 0,.int .i64 0]) ?_ 0 _ rfl;(with_reducible repeat (first|refine blk_drewN ?_ _|refine blk_drew ?_|refine blk_alloc ?_ _));exact BK6.out⟩,⟨by repeat (first|(with_reducible first|exact HK.out|apply Kept.alloc|apply Kept.drewN|apply Kept.drew|refine Kept.setCell ?_ (.inr GW1.out) _|refine Kept.setCell ?_ (.inr GW2.out) _|refine Kept.setCell ?_ (.inr GW6.out) _)|exact HK.out)⟩,⟨by repeat (first|(with_reducible first|exact HB.out|apply below_alloc|apply pw_below_drewN|apply below_drew1|refine below_set ?_ GE1.out|refine below_set ?_ GE2.out|refine below_set ?_ GE6.out)|exact HB.out)⟩⟩
        ·
         rw [if_neg c48] at H
         have c48b0:(a2 == 0)=false:=beq_eq_false_iff_ne.mpr c48
         have c48b1:(a2 != 0)=true:=bne_iff_ne.mpr c48
         (first|rw [c48b0]|(simp only [i64_w,i32_w];rw [c48b0])|skip)
         have H':=Aside0.mk H
         clear H
         go_wp2
         go_meet
         case rel=>exact ⟨_,(false),(by first|rfl|(simp;done)|(simp [*];done)),H',⟨by have:=HJ5.out;first|omega|exact Nat.le_refl _⟩,⟨by (with_reducible repeat (first|apply Kd.R_alloc|apply Kd.R_drewN|apply Kd.R_drew));exact Kd.R_mono (Kd.R_far (p:=⟨gb6,9,none⟩) (Kd.R_far (p:=⟨gb6,8,none⟩) (Kd.R_far (p:=⟨gb6,7,none⟩) (Kd.R_far (p:=⟨gb6,6,none⟩) (Kd.R_far (p:=⟨gb6,5,none⟩) (Kd.R_far (p:=⟨gb6,4,none⟩) (Kd.R_far (p:=⟨gb6,3,none⟩) (Kd.R_far (p:=⟨gb6,2,none⟩) (Kd.R_far (p:=⟨gb6,1,none⟩) (Kd.R_far (p:=⟨gb6,0,none⟩) (Kd.R_mono HO_2002.out (fun k_ hk=>(⟨hk,hk.2⟩:_∧k_≠gb6))) (fun _ hk=>hk.2) (.int .i64 ((rd_T56 l0_2 t4).f0))) (fun _ hk=>hk.2) (.int .i64 ((rd_T56 l0_2 t4).f1.f0))) (fun _ hk=>hk.2) (.int .i64 ((rd_T56 l0_2 t4).f1.f1))) (fun _ hk=>hk.2) (.string ((rd_T56 l0_2 t4).f2))) (fun _ hk=>hk.2) (.bool ((rd_T56 l0_2 t4).f3))) (fun _ hk=>hk.2) (.bool ((rd_T56 l0_2 t4).f4))) (fun _ hk=>hk.2) (.bool ((rd_T56 l0_2 t4).f5))) (fun _ hk=>hk.2) (.int .i64 ((rd_T56 l0_2 t4).f6))) (fun _ hk=>hk.2) (.int .i64 ((rd_T56 l0_2 t4).f7))) (fun _ hk=>hk.2) (.int .i64 ((rd_T56 l0_2 t4).f8))) (fun _ hk=>⟨hk.1.1,hk.1.2⟩)⟩,⟨by (with_reducible repeat (first|apply Kd.R_alloc|apply Kd.R_drewN|apply Kd.R_drew));exact Kd.R_mono (Kd.R_far (p:=⟨gb6,9,none⟩) (Kd.R_far (p:=⟨gb6,8,none⟩) (Kd.R_far (p:=⟨gb6,7,none⟩) (Kd.R_far (p:=⟨gb6,6,none⟩) (Kd.R_far (p:=⟨gb6,5,none⟩) (Kd.R_far (p:=⟨gb6,4,none⟩) (Kd.R_far (p:=⟨gb6,3,none⟩) (Kd.R_far (p:=⟨gb6,2,none⟩) (Kd.R_far (p:=⟨gb6,1,none⟩) (Kd.R_far (p:=⟨gb6,0,none⟩) (Kd.R_types HO_2003.out BK6.out (by decide)) (fun _ hk=>hk.2) (.int .i64 ((rd_T56 l0_2 t4).f0))) (fun _ hk=>hk.2) (.int .i64 ((rd_T56 l0_2 t4).f1.f0))) (fun _ hk=>hk.2) (.int .i64 ((rd_T56 l0_2 t4).f1.f1))) (fun _ hk=>hk.2) (.string ((rd_T56 l0_2 t4).f2))) (fun _ hk=>hk.2) (.bool ((rd_T56 l0_2 t4).f3))) (fun _ hk=>hk.2) (.bool ((rd_T56 l0_2 t4).f4))) (fun _ hk=>hk.2) (.bool ((rd_T56 l0_2 t4).f5))) (fun _ hk=>hk.2) (.int .i64 ((rd_T56 l0_2 t4).f6))) (fun _ hk=>hk.2) (.int .i64 ((rd_T56 l0_2 t4).f7))) (fun _ hk=>hk.2) (.int .i64 ((rd_T56 l0_2 t4).f8))) (fun _ hk=>hk.1)⟩,⟨by (with_reducible repeat (first|refine blk_drewN ?_ _|refine blk_drew ?_|refine blk_alloc ?_ _));refine blk_far ?_ NB1_6.out _;(with_reducible repeat (first|refine blk_drewN ?_ _|refine blk_drew ?_|refine blk_alloc ?_ _));refine blk_far ?_ NB1_6.out _;(with_reducible repeat (first|refine blk_drewN ?_ _|refine blk_drew ?_|refine blk_alloc ?_ _));refine blk_far ?_ NB1_6.out _;(with_reducible repeat (first|refine blk_drewN ?_ _|refine blk_drew ?_|refine blk_alloc ?_ _));refine blk_far ?_ NB1_6.out _;(with_reducible repeat (first|refine blk_drewN ?_ _|refine blk_drew ?_|refine blk_alloc ?_ _));refine blk_far ?_ NB1_6.out _;(with_reducible repeat (first|refine blk_drewN ?_ _|refine blk_drew ?_|refine blk_alloc ?_ _));refine blk_far ?_ NB1_6.out _;(with_reducible repeat (first|refine blk_drewN ?_ _|refine blk_drew ?_|refine blk_alloc ?_ _));refine blk_far ?_ NB1_6.out _;(with_reducible repeat (first|refine blk_drewN ?_ _|refine blk_drew ?_|refine blk_alloc ?_ _));refine blk_far ?_ NB1_6.out _;(with_reducible repeat (first|refine blk_drewN ?_ _|refine blk_drew ?_|refine blk_alloc ?_ _));refine blk_far ?_ NB1_6.out _;(with_reducible repeat (first|refine blk_drewN ?_ _|refine blk_drew ?_|refine blk_alloc ?_ _));refine blk_far ?_ NB1_6.out _;(with_reducible repeat (first|refine blk_drewN ?_ _|refine blk_drew ?_|refine blk_alloc ?_ _));exact BK1.out⟩,⟨by (with_reducible repeat (first|refine blk_drewN ?_ _|refine blk_drew ?_|refine blk_alloc ?_ _));refine blk_far ?_ NB2_6.out _;(with_reducible repeat (first|refine blk_drewN ?_ _|refine blk_drew ?_|refine blk_alloc ?_ _));refine blk_far ?_ NB2_6.out _;(with_reducible repeat (first|refine blk_drewN ?_ _|refine blk_drew ?_|refine blk_alloc ?_ _));refine blk_far ?_ NB2_6.out _;(with_reducible repeat (first|refine blk_drewN ?_ _|refine blk_drew ?_|refine blk_alloc ?_ _));refine blk_far ?_ NB2_6.out _;(with_reducible repeat (first|refine blk_drewN ?_ _|refine blk_drew ?_|refine blk_alloc ?_ _));refine blk_far ?_ NB2_6.out _;(with_reducible repeat (first|refine blk_drewN ?_ _|refine blk_drew ?_|refine blk_alloc ?_ _));refine blk_far ?_ NB2_6.out _;(with_reducible repeat (first|refine blk_drewN ?_ _|refine blk_drew ?_|refine blk_alloc ?_ _));refine blk_far ?_ NB2_6.out _;(with_reducible repeat (first|refine blk_drewN ?_ _|refine blk_drew ?_|refine blk_alloc ?_ _));refine blk_far ?_ NB2_6.out _;(with_reducible repeat (first|refine blk_drewN ?_ _|refine blk_drew ?_|refine blk_alloc ?_ _));refine blk_far ?_ NB2_6.out _;(with_reducible repeat (first|refine blk_drewN ?_ _|refine blk_drew ?_|refine blk_alloc ?_ _));refine blk_far ?_ NB2_6.out _;(with_reducible repeat (first|refine blk_drewN ?_ _|refine blk_drew ?_|refine blk_alloc ?_ _));exact BK2.out⟩,⟨by (with_reducible repeat (first|refine blk_drewN ?_ _|refine blk_drew ?_|refine blk_alloc ?_ _));refine blk_put (cs:=#[.int .i64 ((rd_T56 l0_2 t4).f0),.int .i64 ((rd_T56 l0_2 t4).f1.f0),.int .i64 ((rd_T56 l0_2 t4).f1.f1),.string ((rd_T56 l0_2 t4).f2),.bool ((rd_T56 l0_2 t4).f3),.bool ((rd_T56 l0_2 t4).f4),.bool ((rd_T56 l0_2 t4).f5),.int .i64 ((rd_T56 l0_2 t4).f6),.int .i64 ((rd_T56 l0_2 t4).f7),.int .i64 0]) ?_ 9 _ rfl;(with_reducible repeat (first|refine blk_drewN ?_ _|refine blk_drew ?_|refine blk_alloc ?_ _));refine blk_put (cs:=#[.int .i64 ((rd_T56 l0_2 t4).f0),.int .i64 ((rd_T56 l0_2 t4).f1.f0),.int .i64 ((rd_T56 l0_2 t4).f1.f1),.string ((rd_T56 l0_2 t4).f2),.bool ((rd_T56 l0_2 t4).f3),.bool ((rd_T56 l0_2 t4).f4),.bool ((rd_T56 l0_2 t4).f5),.int .i64 ((rd_T56 l0_2 t4).f6),.int .i64 0,.int .i64 0]) ?_ 8 _ rfl;(with_reducible repeat (first|refine blk_drewN ?_ _|refine blk_drew ?_|refine blk_alloc ?_ _));refine blk_put (cs:=#[.int .i64 ((rd_T56 l0_2 t4).f0),.int .i64 ((rd_T56 l0_2 t4).f1.f0),.int .i64 ((rd_T56 l0_2 t4).f1.f1),.string ((rd_T56 l0_2 t4).f2),.bool ((rd_T56 l0_2 t4).f3),.bool ((rd_T56 l0_2 t4).f4),.bool ((rd_T56 l0_2 t4).f5),.int .i64 0,.int .i64 0,.int .i64 0]) ?_ 7 _ rfl;(with_reducible repeat (first|refine blk_drewN ?_ _|refine blk_drew ?_|refine blk_alloc ?_ _));refine blk_put (cs:=#[.int .i64 ((rd_T56 l0_2 t4).f0),.int .i64 ((rd_T56 l0_2 t4).f1.f0),.int .i64 ((rd_T56 l0_2 t4).f1.f1),.string ((rd_T56 l0_2 t4).f2),.bool ((rd_T56 l0_2 t4).f3),.bool ((rd_T56 l0_2 t4).f4),.bool false,.int .i64 0,.int .i64 0,.int .i64 0]) ?_ 6 _ rfl;(with_reducible repeat (first|refine blk_drewN ?_ _|refine blk_drew ?_|refine blk_alloc ?_ _));refine blk_put (cs:=#[.int .i64 ((rd_T56 l0_2 t4).f0),.int .i64 ((rd_T56 l0_2 t4).f1.f0),.int .i64 ((rd_T56 l0_2 t4).f1.f1),.string ((rd_T56 l0_2 t4).f2),.bool ((rd_T56 l0_2 t4).f3),.bool false,.bool false,.int .i64 0,.int .i64 0,.int .i64 0]) ?_ 5 _ rfl;(with_reducible repeat (first|refine blk_drewN ?_ _|refine blk_drew ?_|refine blk_alloc ?_ _));refine blk_put (cs:=#[.int .i64 ((rd_T56 l0_2 t4).f0),.int .i64 ((rd_T56 l0_2 t4).f1.f0),.int .i64 ((rd_T56 l0_2 t4).f1.f1),.string ((rd_T56 l0_2 t4).f2),.bool false,.bool false,.bool false,.int .i64 0,.int .i64 0,.int .i64 0]) ?_ 4 _ rfl;(with_reducible repeat (first|refine blk_drewN ?_ _|refine blk_drew ?_|refine blk_alloc ?_ _));refine blk_put (cs:=#[.int .i64 ((rd_T56 l0_2 t4).f0),.int .i64 ((rd_T56 l0_2 t4).f1.f0),.int .i64 ((rd_T56 l0_2 t4).f1.f1),.string (⟨#[]⟩:ByteArray),.bool false,.bool false,.bool false,.int .i64 0,.int .i64 0,.int .i64 0]) ?_ 3 _ rfl;(with_reducible repeat (first|refine blk_drewN ?_ _|refine blk_drew ?_|refine blk_alloc ?_ _));refine blk_put (cs:=#[.int .i64 ((rd_T56 l0_2 t4).f0),.int .i64 ((rd_T56 l0_2 t4).f1.f0),.int .i64 0,.string (⟨#[]⟩:ByteArray),.bool false,.bool false,.bool false,.int .i64 0,.int .i64 0,.int .i64 0]) ?_ 2 _ rfl;(with_reducible repeat (first|refine blk_drewN ?_ _|refine blk_drew ?_|refine blk_alloc ?_ _));refine blk_put (cs:=#[.int .i64 ((rd_T56 l0_2 t4).f0),.int .i64 0,.int .i64 0,.string (⟨#[]⟩:ByteArray),.bool false,.bool false,.bool false,.int .i64 0,.int .i64 0,.int .i64 0]) ?_ 1 _ rfl;(with_reducible repeat (first|refine blk_drewN ?_ _|refine blk_drew ?_|refine blk_alloc ?_ _));refine blk_put (cs:=#[.int .i64 0,.int .i64 0,.int .i64 0,.string (⟨#[]⟩:ByteArray),.bool false,.bool false,.bool false,.int .i64 0,.int .i64 0,.int .i64 0]) ?_ 0 _ rfl;(with_reducible repeat (first|refine blk_drewN ?_ _|refine blk_drew ?_|refine blk_alloc ?_ _));exact BK6.out⟩,⟨by repeat (first|(with_reducible first|exact HK.out|apply Kept.alloc|apply Kept.drewN|apply Kept.drew|refine Kept.setCell ?_ (.inr GW1.out) _|refine Kept.setCell ?_ (.inr GW2.out) _|refine Kept.setCell ?_ (.inr GW6.out) _)|exact HK.out)⟩,⟨by repeat (first|(with_reducible first|exact HB.out|apply below_alloc|apply pw_below_drewN|apply below_drew1|refine below_set ?_ GE1.out|refine below_set ?_ GE2.out|refine below_set ?_ GE6.out)|exact HB.out)⟩⟩
       case rest =>
        clear HC39
        try clear c1
        try clear c2
        try clear p2
        try clear c3
        try clear c4
        try clear c5
        try clear p5
        try clear q5
        try clear hx5
        try clear c7
        try clear c11
        try clear c11b0
        try clear c11b1
        try clear c13
        try clear c14
        try clear c14b0
        try clear c14b1
        try clear c15
        try clear c15b0
        try clear c15b1
        try clear c16
        try clear c16b0
        try clear c16b1
        try clear c17
        try clear c17b0
        try clear c18
        try clear c18b0
        try clear c18b1
        try clear c19
        try clear c19b0
        try clear c20
        try clear c20b0
        try clear c20b1
        try clear c21
        try clear c21b0
        try clear c21b1
        try clear c22
        try clear c22b0
        try clear c22b1
        try clear c23
        try clear c23b0
        try clear c24
        try clear c24b0
        try clear c24b1
        try clear c25
        try clear c25b0
        try clear c26
        try clear c27
        try clear c31
        try clear c31b0
        try clear c32
        try clear c37
        try clear c37b0
        try clear c38
        try clear c38b0
        try clear c40
        try clear c45
        try clear c46
        try clear c48
        try clear c48b0
        try clear c48b1
        try clear c49
        try clear c50
        try clear hcz28_0
        try clear hcz28_1
        try clear hcz28_2
        try clear hcz28_3
        try clear hcz29_0
        try clear hcz29_1
        try clear hcz29_2
        try clear hcz29_3
        try clear hcz33_0
        try clear hcz33_1
        try clear hcz33_2
        try clear hcz33_3
        try clear hcz35_0
        try clear hcz35_1
        try clear hcz35_2
        try clear hcz35_3
        try clear hcz36_0
        try clear hcz36_1
        try clear hcz36_2
        try clear hcz36_3
        try clear hcz41_0
        try clear hcz41_1
        try clear hcz41_2
        try clear hcz41_3
        try clear hcz43_0
        try clear hcz43_1
        try clear hcz43_2
        try clear hcz43_3
        try clear hcz47_0
        try clear hcz47_1
        try clear hcz47_2
        try clear hcz47_3
        try clear hcz47_4
        try clear hcz47_5
        try clear hcz47_6
        try clear hcz47_7
        try clear hcz47_8
        try clear hcz47_9
        try clear hcz51_0
        try clear hcz51_1
        try clear hcz51_2
        try clear hcz51_3
        try clear hcz51_4
        try clear hcz51_5
        try clear hcz51_6
        try clear hcz51_7
        try clear hcz51_8
        try clear hcz51_9
        try clear hfz28_0
        try clear hfz28_1
        try clear hfz28_2
        try clear hfz28_3
        try clear hfz29_0
        try clear hfz29_1
        try clear hfz29_2
        try clear hfz29_3
        try clear hfz33_0
        try clear hfz33_1
        try clear hfz33_2
        try clear hfz33_3
        try clear hfz35_0
        try clear hfz35_1
        try clear hfz35_2
        try clear hfz35_3
        try clear hfz36_0
        try clear hfz36_1
        try clear hfz36_2
        try clear hfz36_3
        try clear hfz41_0
        try clear hfz41_1
        try clear hfz41_2
        try clear hfz41_3
        try clear hfz43_0
        try clear hfz43_1
        try clear hfz43_2
        try clear hfz43_3
        try clear hfz47_0
        try clear hfz47_1
        try clear hfz47_2
        try clear hfz47_3
        try clear hfz47_4
        try clear hfz47_5
        try clear hfz47_6
        try clear hfz47_7
        try clear hfz47_8
        try clear hfz47_9
        try clear hfz51_0
        try clear hfz51_1
        try clear hfz51_2
        try clear hfz51_3
        try clear hfz51_4
        try clear hfz51_5
        try clear hfz51_6
        try clear hfz51_7
        try clear hfz51_8
        try clear hfz51_9
        try clear hx5_0
        try clear hx5_1
        try clear hx5_2
        try clear hx5_3
        try clear hx5_4
        try clear hx5_5
        try clear hx5_6
        try clear hx5_7
        try clear hx5_8
        try clear hx5_9
        try clear p2
        try clear p5
        try clear q5
        obtain ⟨kq,x61_38,rfl,HA,HJ38,HO_2002,HO_2003,BK1,BK2,BK6,HK,HB⟩:=hcut
        cases kq with
        | zero=>exact absurd HA.out (by simp [mosaicref18_Table_Set.j1])
        | succ kj38 =>
         have H:=HA.out
         clear HA
         simp only [mosaicref18_Table_Set.j1] at H
         have HC52:=Aside0.mk H
         clear H
         go_upto_if 61 with (fail)
         go_cut [] (fun wc=>∃ (kq:Nat) (x7007_51:Int),Aside0 (mosaicref18_Table_Set.j2 kq a2 a3 a4 a0_0 a0_1 l0_2 l0_3 ((rd_T56 l0_2 t4).f0) ((rd_T56 l0_2 t4).f1.f0) ((rd_T56 l0_2 t4).f1.f1) ((rd_T56 l0_2 t4).f2) ((rd_T56 l0_2 t4).f3) ((rd_T56 l0_2 t4).f4) ((rd_T56 l0_2 t4).f5) x7007_51 ((rd_T56 l0_2 t4).f7) ((rd_T56 l0_2 t4).f8)=some (r1,r2,r3,r4,r5))∧Aside0 (kq≤kj38)∧Aside0 (Kd.R k56 56 wc w0.heap.size (fun k_=>((P0_2_ k_∨P0_3_ k_)∨w.heap.size≤k_)∧k_≠gb6) (.slice (some ad5) l0_2.length co7) l0_2)∧Aside0 (Kd.R (Kd.int .i64) 3 wc w0.heap.size (fun k_=>((P0_2_ k_∨P0_3_ k_)∨w.heap.size≤k_)) (.slice Ao8 l0_3.length co8) l0_3)∧Aside0 (wc.heap[gb1]?=some (.cells #[.int .i64 a0_0,.int .i64 a0_1,(.slice (some ad5) l0_2.length co7),(.slice Ao8 l0_3.length co8)] 45 (0,0)))∧Aside0 (wc.heap[gb2]?=some (.cells #[.int .i64 0,.int .i64 0,(.slice none 0 0),(.slice none 0 0)] 45 (0,0)))∧Aside0 (wc.heap[gb6]?=some (.cells #[.int .i64 ((rd_T56 l0_2 t4).f0),.int .i64 ((rd_T56 l0_2 t4).f1.f0),.int .i64 ((rd_T56 l0_2 t4).f1.f1),.string ((rd_T56 l0_2 t4).f2),.bool ((rd_T56 l0_2 t4).f3),.bool ((rd_T56 l0_2 t4).f4),.bool ((rd_T56 l0_2 t4).f5),.int .i64 x7007_51,.int .i64 ((rd_T56 l0_2 t4).f7),.int .i64 ((rd_T56 l0_2 t4).f8)] 56 (0,0)))∧Aside0 (Kept w wc (fun k_=>P0_2_ k_∨P0_3_ k_))∧Aside0 (Below w0.heap.size w0 wc))
         case first =>
          have H:=HC52.out
          clear HC52
          by_cases c53:x61_38=true
          ·
           subst c53
           have H1:(mosaicref18_Table_Set.j2 kj38 a2 a3 a4 a0_0 a0_1 l0_2 l0_3 ((rd_T56 l0_2 t4).f0) ((rd_T56 l0_2 t4).f1.f0) ((rd_T56 l0_2 t4).f1.f1) ((rd_T56 l0_2 t4).f2) ((rd_T56 l0_2 t4).f3) ((rd_T56 l0_2 t4).f4) ((rd_T56 l0_2 t4).f5) a3 ((rd_T56 l0_2 t4).f7) ((rd_T56 l0_2 t4).f8))=some (r1,r2,r3,r4,r5):=by rw [if_pos rfl] at H;exact H
           clear H
           have H:=H1
           clear H1
           have H':=Aside0.mk H
           clear H
           have hnb54:=NB6_1.out
           have hnc54:=NB1_6.out
           have hnb55:=NB6_2.out
           have hnc55:=NB2_6.out
           have hcz56_0:wc.cell? ⟨gb6,0,none⟩=some (.int .i64 ((rd_T56 l0_2 t4).f0)):=(blk_cell BK6.out 0).trans rfl
           have hcz56_1:wc.cell? ⟨gb6,1,none⟩=some (.int .i64 ((rd_T56 l0_2 t4).f1.f0)):=(blk_cell BK6.out 1).trans rfl
           have hcz56_2:wc.cell? ⟨gb6,2,none⟩=some (.int .i64 ((rd_T56 l0_2 t4).f1.f1)):=(blk_cell BK6.out 2).trans rfl
           have hcz56_3:wc.cell? ⟨gb6,3,none⟩=some (.string ((rd_T56 l0_2 t4).f2)):=(blk_cell BK6.out 3).trans rfl
           have hcz56_4:wc.cell? ⟨gb6,4,none⟩=some (.bool ((rd_T56 l0_2 t4).f3)):=(blk_cell BK6.out 4).trans rfl
           have hcz56_5:wc.cell? ⟨gb6,5,none⟩=some (.bool ((rd_T56 l0_2 t4).f4)):=(blk_cell BK6.out 5).trans rfl
           have hcz56_6:wc.cell? ⟨gb6,6,none⟩=some (.bool ((rd_T56 l0_2 t4).f5)):=(blk_cell BK6.out 6).trans rfl
           have hcz56_7:wc.cell? ⟨gb6,7,none⟩=some (.int .i64 ((rd_T56 l0_2 t4).f6)):=(blk_cell BK6.out 7).trans rfl
           have hcz56_8:wc.cell? ⟨gb6,8,none⟩=some (.int .i64 ((rd_T56 l0_2 t4).f7)):=(blk_cell BK6.out 8).trans rfl
           have hcz56_9:wc.cell? ⟨gb6,9,none⟩=some (.int .i64 ((rd_T56 l0_2 t4).f8)):=(blk_cell BK6.out 9).trans rfl
           have hfz56_0:=blk_frozen BK6.out 0
           have hfz56_1:=blk_frozen BK6.out 1
           have hfz56_2:=blk_frozen BK6.out 2
           have hfz56_3:=blk_frozen BK6.out 3
           have hfz56_4:=blk_frozen BK6.out 4
           have hfz56_5:=blk_frozen BK6.out 5
           have hfz56_6:=blk_frozen BK6.out 6
           have hfz56_7:=blk_frozen BK6.out 7
           have hfz56_8:=blk_frozen BK6.out 8
           have hfz56_9:=blk_frozen BK6.out 9
           go_wp2
           go_meet
           case rel=>exact ⟨_,(a3),H',⟨by have:=HJ5.out;have:=HJ38.out;first|omega|exact Nat.le_refl _⟩,⟨by (with_reducible repeat (first|apply Kd.R_alloc|apply Kd.R_drewN|apply Kd.R_drew));exact Kd.R_mono (Kd.R_far (p:=⟨gb6,7,none⟩) (Kd.R_mono HO_2002.out (fun k_ hk=>(⟨hk,hk.2⟩:_∧k_≠gb6))) (fun _ hk=>hk.2) (.int .i64 a3)) (fun _ hk=>⟨hk.1.1,hk.1.2⟩)⟩,⟨by (with_reducible repeat (first|apply Kd.R_alloc|apply Kd.R_drewN|apply Kd.R_drew));exact Kd.R_mono (Kd.R_far (p:=⟨gb6,7,none⟩) (Kd.R_types HO_2003.out BK6.out (by decide)) (fun _ hk=>hk.2) (.int .i64 a3)) (fun _ hk=>hk.1)⟩,⟨by (with_reducible repeat (first|refine blk_drewN ?_ _|refine blk_drew ?_|refine blk_alloc ?_ _));refine blk_far ?_ NB1_6.out _;(with_reducible repeat (first|refine blk_drewN ?_ _|refine blk_drew ?_|refine blk_alloc ?_ _));exact BK1.out⟩,⟨by (with_reducible repeat (first|refine blk_drewN ?_ _|refine blk_drew ?_|refine blk_alloc ?_ _));refine blk_far ?_ NB2_6.out _;(with_reducible repeat (first|refine blk_drewN ?_ _|refine blk_drew ?_|refine blk_alloc ?_ _));exact BK2.out⟩,⟨by (with_reducible repeat (first|refine blk_drewN ?_ _|refine blk_drew ?_|refine blk_alloc ?_ _));refine blk_put (cs:=#[.int .i64 ((rd_T56 l0_2 t4).f0),.int .i64 ((rd_T56 l0_2 t4).f1.f0),.int .i64 ((rd_T56 l0_2 t4).f1.f1),.string ((rd_T56 l0_2 t4).f2),.bool ((rd_T56 l0_2 t4).f3),.bool ((rd_T56 l0_2 t4).f4),.bool ((rd_T56 l0_2 t4).f5),.int .i64 ((rd_T56 l0_2 t4).f6),.int .i64 ((rd_T56 l0_2 t4).f7),.int .i64 ((rd_T56 l0_2 t4).f8)]) ?_ 7 _ rfl;(with_reducible repeat (first|refine blk_drewN ?_ _|refine blk_drew ?_|refine blk_alloc ?_ _));exact BK6.out⟩,⟨by repeat (first|(with_reducible first|exact HK.out|apply Kept.alloc|apply Kept.drewN|apply Kept.drew|refine Kept.setCell ?_ (.inr GW1.out) _|refine Kept.setCell ?_ (.inr GW2.out) _|refine Kept.setCell ?_ (.inr GW6.out) _)|exact HK.out)⟩,⟨by repeat (first|(with_reducible first|exact HB.out|apply below_alloc|apply pw_below_drewN|apply below_drew1|refine below_set ?_ GE1.out|refine below_set ?_ GE2.out|refine below_set ?_ GE6.out)|exact HB.out)⟩⟩
          ·
           replace c53:=Bool.eq_false_iff.mpr c53
           subst c53
           have H1:(mosaicref18_Table_Set.j2 kj38 a2 a3 a4 a0_0 a0_1 l0_2 l0_3 ((rd_T56 l0_2 t4).f0) ((rd_T56 l0_2 t4).f1.f0) ((rd_T56 l0_2 t4).f1.f1) ((rd_T56 l0_2 t4).f2) ((rd_T56 l0_2 t4).f3) ((rd_T56 l0_2 t4).f4) ((rd_T56 l0_2 t4).f5) ((rd_T56 l0_2 t4).f6) ((rd_T56 l0_2 t4).f7) ((rd_T56 l0_2 t4).f8))=some (r1,r2,r3,r4,r5):=by rw [if_neg (show ¬ (false=true) by decide)] at H;exact H
           clear H
           have H:=H1
           clear H1
           have H':=Aside0.mk H
           clear H
           go_wp2
           go_meet
           case rel=>exact ⟨_,(((rd_T56 l0_2 t4).f6)),H',⟨by have:=HJ5.out;have:=HJ38.out;first|omega|exact Nat.le_refl _⟩,⟨by (with_reducible repeat (first|apply Kd.R_alloc|apply Kd.R_drewN|apply Kd.R_drew));exact HO_2002.out⟩,⟨by (with_reducible repeat (first|apply Kd.R_alloc|apply Kd.R_drewN|apply Kd.R_drew));exact HO_2003.out⟩,⟨by (with_reducible repeat (first|refine blk_drewN ?_ _|refine blk_drew ?_|refine blk_alloc ?_ _));exact BK1.out⟩,⟨by (with_reducible repeat (first|refine blk_drewN ?_ _|refine blk_drew ?_|refine blk_alloc ?_ _));exact BK2.out⟩,⟨by (with_reducible repeat (first|refine blk_drewN ?_ _|refine blk_drew ?_|refine blk_alloc ?_ _));exact BK6.out⟩,⟨by repeat (first|(with_reducible first|exact HK.out|apply Kept.alloc|apply Kept.drewN|apply Kept.drew|refine Kept.setCell ?_ (.inr GW1.out) _|refine Kept.setCell ?_ (.inr GW2.out) _|refine Kept.setCell ?_ (.inr GW6.out) _)|exact HK.out)⟩,⟨by repeat (first|(with_reducible first|exact HB.out|apply below_alloc|apply pw_below_drewN|apply below_drew1|refine below_set ?_ GE1.out|refine below_set ?_ GE2.out|refine below_set ?_ GE6.out)|exact HB.out)⟩⟩
         case rest =>
          clear HC52
          try clear c1
          try clear c2
          try clear p2
          try clear c3
          try clear c4
          try clear c5
          try clear p5
          try clear q5
          try clear hx5
          try clear c7
          try clear c11
          try clear c11b0
          try clear c11b1
          try clear c13
          try clear c14
          try clear c14b0
          try clear c14b1
          try clear c15
          try clear c15b0
          try clear c15b1
          try clear c16
          try clear c16b0
          try clear c16b1
          try clear c17
          try clear c17b0
          try clear c18
          try clear c18b0
          try clear c18b1
          try clear c19
          try clear c19b0
          try clear c20
          try clear c20b0
          try clear c20b1
          try clear c21
          try clear c21b0
          try clear c21b1
          try clear c22
          try clear c22b0
          try clear c22b1
          try clear c23
          try clear c23b0
          try clear c24
          try clear c24b0
          try clear c24b1
          try clear c25
          try clear c25b0
          try clear c26
          try clear c27
          try clear c31
          try clear c31b0
          try clear c32
          try clear c37
          try clear c37b0
          try clear c38
          try clear c38b0
          try clear c40
          try clear c45
          try clear c46
          try clear c48
          try clear c48b0
          try clear c48b1
          try clear c49
          try clear c50
          try clear c53
          try clear c54
          try clear c55
          try clear hcz28_0
          try clear hcz28_1
          try clear hcz28_2
          try clear hcz28_3
          try clear hcz29_0
          try clear hcz29_1
          try clear hcz29_2
          try clear hcz29_3
          try clear hcz33_0
          try clear hcz33_1
          try clear hcz33_2
          try clear hcz33_3
          try clear hcz35_0
          try clear hcz35_1
          try clear hcz35_2
          try clear hcz35_3
          try clear hcz36_0
          try clear hcz36_1
          try clear hcz36_2
          try clear hcz36_3
          try clear hcz41_0
          try clear hcz41_1
          try clear hcz41_2
          try clear hcz41_3
          try clear hcz43_0
          try clear hcz43_1
          try clear hcz43_2
          try clear hcz43_3
          try clear hcz47_0
          try clear hcz47_1
          try clear hcz47_2
          try clear hcz47_3
          try clear hcz47_4
          try clear hcz47_5
          try clear hcz47_6
          try clear hcz47_7
          try clear hcz47_8
          try clear hcz47_9
          try clear hcz51_0
          try clear hcz51_1
          try clear hcz51_2
          try clear hcz51_3
          try clear hcz51_4
          try clear hcz51_5
          try clear hcz51_6
          try clear hcz51_7
          try clear hcz51_8
          try clear hcz51_9
          try clear hcz56_0
          try clear hcz56_1
          try clear hcz56_2
          try clear hcz56_3
          try clear hcz56_4
          try clear hcz56_5
          try clear hcz56_6
          try clear hcz56_7
          try clear hcz56_8
          try clear hcz56_9
          try clear hfz28_0
          try clear hfz28_1
          try clear hfz28_2
          try clear hfz28_3
          try clear hfz29_0
          try clear hfz29_1
          try clear hfz29_2
          try clear hfz29_3
          try clear hfz33_0
          try clear hfz33_1
          try clear hfz33_2
          try clear hfz33_3
          try clear hfz35_0
          try clear hfz35_1
          try clear hfz35_2
          try clear hfz35_3
          try clear hfz36_0
          try clear hfz36_1
          try clear hfz36_2
          try clear hfz36_3
          try clear hfz41_0
          try clear hfz41_1
          try clear hfz41_2
          try clear hfz41_3
          try clear hfz43_0
          try clear hfz43_1
          try clear hfz43_2
          try clear hfz43_3
          try clear hfz47_0
          try clear hfz47_1
          try clear hfz47_2
          try clear hfz47_3
          try clear hfz47_4
          try clear hfz47_5
          try clear hfz47_6
          try clear hfz47_7
          try clear hfz47_8
          try clear hfz47_9
          try clear hfz51_0
          try clear hfz51_1
          try clear hfz51_2
          try clear hfz51_3
          try clear hfz51_4
          try clear hfz51_5
          try clear hfz51_6
          try clear hfz51_7
          try clear hfz51_8
          try clear hfz51_9
          try clear hfz56_0
          try clear hfz56_1
          try clear hfz56_2
          try clear hfz56_3
          try clear hfz56_4
          try clear hfz56_5
          try clear hfz56_6
          try clear hfz56_7
          try clear hfz56_8
          try clear hfz56_9
          try clear hx5_0
          try clear hx5_1
          try clear hx5_2
          try clear hx5_3
          try clear hx5_4
          try clear hx5_5
          try clear hx5_6
          try clear hx5_7
          try clear hx5_8
          try clear hx5_9
          try clear p2
          try clear p5
          try clear q5
          obtain ⟨kq,x7007_51,HA,HJ51,HO_2002,HO_2003,BK1,BK2,BK6,HK,HB⟩:=hcut
          cases kq with
          | zero=>exact absurd HA.out (by simp [mosaicref18_Table_Set.j2])
          | succ kj51 =>
           have H:=HA.out
           clear HA
           simp only [mosaicref18_Table_Set.j2] at H
           have HC57:=Aside0.mk H
           clear H
           go_upto_if 65 with (fail)
           go_cut [] (fun wc=>∃ (kq:Nat) (x7003_56:ByteArray),Aside0 (mosaicref18_Table_Set.j3 kq a2 a3 a0_0 a0_1 l0_2 l0_3 ((rd_T56 l0_2 t4).f0) ((rd_T56 l0_2 t4).f1.f0) ((rd_T56 l0_2 t4).f1.f1) x7003_56 ((rd_T56 l0_2 t4).f3) ((rd_T56 l0_2 t4).f4) ((rd_T56 l0_2 t4).f5) x7007_51 ((rd_T56 l0_2 t4).f7) ((rd_T56 l0_2 t4).f8)=some (r1,r2,r3,r4,r5))∧Aside0 (kq≤kj51)∧Aside0 (Kd.R k56 56 wc w0.heap.size (fun k_=>((P0_2_ k_∨P0_3_ k_)∨w.heap.size≤k_)∧k_≠gb6) (.slice (some ad5) l0_2.length co7) l0_2)∧Aside0 (Kd.R (Kd.int .i64) 3 wc w0.heap.size (fun k_=>((P0_2_ k_∨P0_3_ k_)∨w.heap.size≤k_)) (.slice Ao8 l0_3.length co8) l0_3)∧Aside0 (wc.heap[gb1]?=some (.cells #[.int .i64 a0_0,.int .i64 a0_1,(.slice (some ad5) l0_2.length co7),(.slice Ao8 l0_3.length co8)] 45 (0,0)))∧Aside0 (wc.heap[gb2]?=some (.cells #[.int .i64 0,.int .i64 0,(.slice none 0 0),(.slice none 0 0)] 45 (0,0)))∧Aside0 (wc.heap[gb6]?=some (.cells #[.int .i64 ((rd_T56 l0_2 t4).f0),.int .i64 ((rd_T56 l0_2 t4).f1.f0),.int .i64 ((rd_T56 l0_2 t4).f1.f1),.string x7003_56,.bool ((rd_T56 l0_2 t4).f3),.bool ((rd_T56 l0_2 t4).f4),.bool ((rd_T56 l0_2 t4).f5),.int .i64 x7007_51,.int .i64 ((rd_T56 l0_2 t4).f7),.int .i64 ((rd_T56 l0_2 t4).f8)] 56 (0,0)))∧Aside0 (Kept w wc (fun k_=>P0_2_ k_∨P0_3_ k_))∧Aside0 (Below w0.heap.size w0 wc))
           case first =>
            have H:=HC57.out
            clear HC57
            by_cases c58:a2=1
            ·
             rw [if_pos c58] at H
             have c58b0:(a2 == 1)=true:=beq_iff_eq.mpr c58
             have c58b1:(a2 != 1)=false:=bne_eq_false_iff_eq.mpr c58
             clear c58
             (first|rw [c58b0]|(simp only [i64_w,i32_w];rw [c58b0])|skip)
             have H':=Aside0.mk H
             clear H
             have hnb59:=NB6_1.out
             have hnc59:=NB1_6.out
             have hnb60:=NB6_2.out
             have hnc60:=NB2_6.out
             have hcz61_0:wc.cell? ⟨gb6,0,none⟩=some (.int .i64 ((rd_T56 l0_2 t4).f0)):=(blk_cell BK6.out 0).trans rfl
             have hcz61_1:wc.cell? ⟨gb6,1,none⟩=some (.int .i64 ((rd_T56 l0_2 t4).f1.f0)):=(blk_cell BK6.out 1).trans rfl
             have hcz61_2:wc.cell? ⟨gb6,2,none⟩=some (.int .i64 ((rd_T56 l0_2 t4).f1.f1)):=(blk_cell BK6.out 2).trans rfl
             have hcz61_3:wc.cell? ⟨gb6,3,none⟩=some (.string ((rd_T56 l0_2 t4).f2)):=(blk_cell BK6.out 3).trans rfl
             have hcz61_4:wc.cell? ⟨gb6,4,none⟩=some (.bool ((rd_T56 l0_2 t4).f3)):=(blk_cell BK6.out 4).trans rfl
             have hcz61_5:wc.cell? ⟨gb6,5,none⟩=some (.bool ((rd_T56 l0_2 t4).f4)):=(blk_cell BK6.out 5).trans rfl
             have hcz61_6:wc.cell? ⟨gb6,6,none⟩=some (.bool ((rd_T56 l0_2 t4).f5)):=(blk_cell BK6.out 6).trans rfl
             have hcz61_7:wc.cell? ⟨gb6,7,none⟩=some (.int .i64 x7007_51):=(blk_cell BK6.out 7).trans rfl
             have hcz61_8:wc.cell? ⟨gb6,8,none⟩=some (.int .i64 ((rd_T56 l0_2 t4).f7)):=(blk_cell BK6.out 8).trans rfl
             have hcz61_9:wc.cell? ⟨gb6,9,none⟩=some (.int .i64 ((rd_T56 l0_2 t4).f8)):=(blk_cell BK6.out 9).trans rfl
             have hfz61_0:=blk_frozen BK6.out 0
             have hfz61_1:=blk_frozen BK6.out 1
             have hfz61_2:=blk_frozen BK6.out 2
             have hfz61_3:=blk_frozen BK6.out 3
             have hfz61_4:=blk_frozen BK6.out 4
             have hfz61_5:=blk_frozen BK6.out 5
             have hfz61_6:=blk_frozen BK6.out 6
             have hfz61_7:=blk_frozen BK6.out 7
             have hfz61_8:=blk_frozen BK6.out 8
             have hfz61_9:=blk_frozen BK6.out 9
             go_wp2
             go_meet
             case rel=>exact ⟨_,(a4),H',⟨by have:=HJ5.out;have:=HJ38.out;have:=HJ51.out;first|omega|exact Nat.le_refl _⟩,⟨by (with_reducible repeat (first|apply Kd.R_alloc|apply Kd.R_drewN|apply Kd.R_drew));exact Kd.R_mono (Kd.R_far (p:=⟨gb6,3,none⟩) (Kd.R_mono HO_2002.out (fun k_ hk=>(⟨hk,hk.2⟩:_∧k_≠gb6))) (fun _ hk=>hk.2) (.string a4)) (fun _ hk=>⟨hk.1.1,hk.1.2⟩)⟩,⟨by (with_reducible repeat (first|apply Kd.R_alloc|apply Kd.R_drewN|apply Kd.R_drew));exact Kd.R_mono (Kd.R_far (p:=⟨gb6,3,none⟩) (Kd.R_types HO_2003.out BK6.out (by decide)) (fun _ hk=>hk.2) (.string a4)) (fun _ hk=>hk.1)⟩,⟨by (with_reducible repeat (first|refine blk_drewN ?_ _|refine blk_drew ?_|refine blk_alloc ?_ _));refine blk_far ?_ NB1_6.out _;(with_reducible repeat (first|refine blk_drewN ?_ _|refine blk_drew ?_|refine blk_alloc ?_ _));exact BK1.out⟩,⟨by (with_reducible repeat (first|refine blk_drewN ?_ _|refine blk_drew ?_|refine blk_alloc ?_ _));refine blk_far ?_ NB2_6.out _;(with_reducible repeat (first|refine blk_drewN ?_ _|refine blk_drew ?_|refine blk_alloc ?_ _));exact BK2.out⟩,⟨by (with_reducible repeat (first|refine blk_drewN ?_ _|refine blk_drew ?_|refine blk_alloc ?_ _));refine blk_put (cs:=#[.int .i64 ((rd_T56 l0_2 t4).f0),.int .i64 ((rd_T56 l0_2 t4).f1.f0),.int .i64 ((rd_T56 l0_2 t4).f1.f1),.string ((rd_T56 l0_2 t4).f2),.bool ((rd_T56 l0_2 t4).f3),.bool ((rd_T56 l0_2 t4).f4),.bool ((rd_T56 l0_2 t4).f5),.int .i64 x7007_51,.int .i64 ((rd_T56 l0_2 t4).f7),.int .i64 ((rd_T56 l0_2 t4).f8)]) ?_ 3 _ rfl;(with_reducible repeat (first|refine blk_drewN ?_ _|refine blk_drew ?_|refine blk_alloc ?_ _));exact BK6.out⟩,⟨by repeat (first|(with_reducible first|exact HK.out|apply Kept.alloc|apply Kept.drewN|apply Kept.drew|refine Kept.setCell ?_ (.inr GW1.out) _|refine Kept.setCell ?_ (.inr GW2.out) _|refine Kept.setCell ?_ (.inr GW6.out) _)|exact HK.out)⟩,⟨by repeat (first|(with_reducible first|exact HB.out|apply below_alloc|apply pw_below_drewN|apply below_drew1|refine below_set ?_ GE1.out|refine below_set ?_ GE2.out|refine below_set ?_ GE6.out)|exact HB.out)⟩⟩
            ·
             rw [if_neg c58] at H
             have c58b0:(a2 == 1)=false:=beq_eq_false_iff_ne.mpr c58
             have c58b1:(a2 != 1)=true:=bne_iff_ne.mpr c58
             (first|rw [c58b0]|(simp only [i64_w,i32_w];rw [c58b0])|skip)
             have H':=Aside0.mk H
             clear H
             go_wp2
             go_meet
             case rel=>exact ⟨_,(((rd_T56 l0_2 t4).f2)),H',⟨by have:=HJ5.out;have:=HJ38.out;have:=HJ51.out;first|omega|exact Nat.le_refl _⟩,⟨by (with_reducible repeat (first|apply Kd.R_alloc|apply Kd.R_drewN|apply Kd.R_drew));exact HO_2002.out⟩,⟨by (with_reducible repeat (first|apply Kd.R_alloc|apply Kd.R_drewN|apply Kd.R_drew));exact HO_2003.out⟩,⟨by (with_reducible repeat (first|refine blk_drewN ?_ _|refine blk_drew ?_|refine blk_alloc ?_ _));exact BK1.out⟩,⟨by (with_reducible repeat (first|refine blk_drewN ?_ _|refine blk_drew ?_|refine blk_alloc ?_ _));exact BK2.out⟩,⟨by (with_reducible repeat (first|refine blk_drewN ?_ _|refine blk_drew ?_|refine blk_alloc ?_ _));exact BK6.out⟩,⟨by repeat (first|(with_reducible first|exact HK.out|apply Kept.alloc|apply Kept.drewN|apply Kept.drew|refine Kept.setCell ?_ (.inr GW1.out) _|refine Kept.setCell ?_ (.inr GW2.out) _|refine Kept.setCell ?_ (.inr GW6.out) _)|exact HK.out)⟩,⟨by repeat (first|(with_reducible first|exact HB.out|apply below_alloc|apply pw_below_drewN|apply below_drew1|refine below_set ?_ GE1.out|refine below_set ?_ GE2.out|refine below_set ?_ GE6.out)|exact HB.out)⟩⟩
           case rest =>
            clear HC57
            try clear c1
            try clear c2
            try clear p2
            try clear c3
            try clear c4
            try clear c5
            try clear p5
            try clear q5
            try clear hx5
            try clear c6
            try clear c7
            try clear c11
            try clear c11b0
            try clear c11b1
            try clear c13
            try clear c14
            try clear c14b0
            try clear c14b1
            try clear c15
            try clear c15b0
            try clear c15b1
            try clear c16
            try clear c16b0
            try clear c16b1
            try clear c17
            try clear c17b0
            try clear c18
            try clear c18b0
            try clear c18b1
            try clear c19
            try clear c19b0
            try clear c20
            try clear c20b0
            try clear c20b1
            try clear c21
            try clear c21b0
            try clear c21b1
            try clear c22
            try clear c22b0
            try clear c22b1
            try clear c23
            try clear c23b0
            try clear c24
            try clear c24b0
            try clear c24b1
            try clear c25
            try clear c25b0
            try clear c26
            try clear c27
            try clear c31
            try clear c31b0
            try clear c32
            try clear c37
            try clear c37b0
            try clear c38
            try clear c38b0
            try clear c40
            try clear c45
            try clear c46
            try clear c48
            try clear c48b0
            try clear c48b1
            try clear c49
            try clear c50
            try clear c53
            try clear c54
            try clear c55
            try clear c58
            try clear c58b0
            try clear c58b1
            try clear c59
            try clear c60
            try clear hcz28_0
            try clear hcz28_1
            try clear hcz28_2
            try clear hcz28_3
            try clear hcz29_0
            try clear hcz29_1
            try clear hcz29_2
            try clear hcz29_3
            try clear hcz33_0
            try clear hcz33_1
            try clear hcz33_2
            try clear hcz33_3
            try clear hcz35_0
            try clear hcz35_1
            try clear hcz35_2
            try clear hcz35_3
            try clear hcz36_0
            try clear hcz36_1
            try clear hcz36_2
            try clear hcz36_3
            try clear hcz41_0
            try clear hcz41_1
            try clear hcz41_2
            try clear hcz41_3
            try clear hcz43_0
            try clear hcz43_1
            try clear hcz43_2
            try clear hcz43_3
            try clear hcz47_0
            try clear hcz47_1
            try clear hcz47_2
            try clear hcz47_3
            try clear hcz47_4
            try clear hcz47_5
            try clear hcz47_6
            try clear hcz47_7
            try clear hcz47_8
            try clear hcz47_9
            try clear hcz51_0
            try clear hcz51_1
            try clear hcz51_2
            try clear hcz51_3
            try clear hcz51_4
            try clear hcz51_5
            try clear hcz51_6
            try clear hcz51_7
            try clear hcz51_8
            try clear hcz51_9
            try clear hcz56_0
            try clear hcz56_1
            try clear hcz56_2
            try clear hcz56_3
            try clear hcz56_4
            try clear hcz56_5
            try clear hcz56_6
            try clear hcz56_7
            try clear hcz56_8
            try clear hcz56_9
            try clear hcz61_0
            try clear hcz61_1
            try clear hcz61_2
            try clear hcz61_3
            try clear hcz61_4
            try clear hcz61_5
            try clear hcz61_6
            try clear hcz61_7
            try clear hcz61_8
            try clear hcz61_9
            try clear hfz28_0
            try clear hfz28_1
            try clear hfz28_2
            try clear hfz28_3
            try clear hfz29_0
            try clear hfz29_1
            try clear hfz29_2
            try clear hfz29_3
            try clear hfz33_0
            try clear hfz33_1
            try clear hfz33_2
            try clear hfz33_3
            try clear hfz35_0
            try clear hfz35_1
            try clear hfz35_2
            try clear hfz35_3
            try clear hfz36_0
            try clear hfz36_1
            try clear hfz36_2
            try clear hfz36_3
            try clear hfz41_0
            try clear hfz41_1
            try clear hfz41_2
            try clear hfz41_3
            try clear hfz43_0
            try clear hfz43_1
            try clear hfz43_2
            try clear hfz43_3
            try clear hfz47_0
            try clear hfz47_1
            try clear hfz47_2
            try clear hfz47_3
            try clear hfz47_4
            try clear hfz47_5
            try clear hfz47_6
            try clear hfz47_7
            try clear hfz47_8
            try clear hfz47_9
            try clear hfz51_0
            try clear hfz51_1
            try clear hfz51_2
            try clear hfz51_3
            try clear hfz51_4
            try clear hfz51_5
            try clear hfz51_6
            try clear hfz51_7
            try clear hfz51_8
            try clear hfz51_9
            try clear hfz56_0
            try clear hfz56_1
            try clear hfz56_2
            try clear hfz56_3
            try clear hfz56_4
            try clear hfz56_5
            try clear hfz56_6
            try clear hfz56_7
            try clear hfz56_8
            try clear hfz56_9
            try clear hfz61_0
            try clear hfz61_1
            try clear hfz61_2
            try clear hfz61_3
            try clear hfz61_4
            try clear hfz61_5
            try clear hfz61_6
            try clear hfz61_7
            try clear hfz61_8
            try clear hfz61_9
            try clear hx5_0
            try clear hx5_1
            try clear hx5_2
            try clear hx5_3
            try clear hx5_4
            try clear hx5_5
            try clear hx5_6
            try clear hx5_7
            try clear hx5_8
            try clear hx5_9
            try clear p2
            try clear p5
            try clear q5
            obtain ⟨kq,x7003_56,HA,HJ56,HO_2002,HO_2003,BK1,BK2,BK6,HK,HB⟩:=hcut
            cases kq with
            | zero=>exact absurd HA.out (by simp [mosaicref18_Table_Set.j3])
            | succ kj56 =>
             have H:=HA.out
             clear HA
             simp only [mosaicref18_Table_Set.j3] at H
             have HC62:=Aside0.mk H
             clear H
             go_upto_if 69 with (fail)
             go_cut [] (fun wc=>∃ (kq:Nat) (x7004_61:Bool),Aside0 (mosaicref18_Table_Set.j4 kq a2 a3 a0_0 a0_1 l0_2 l0_3 ((rd_T56 l0_2 t4).f0) ((rd_T56 l0_2 t4).f1.f0) ((rd_T56 l0_2 t4).f1.f1) x7003_56 x7004_61 ((rd_T56 l0_2 t4).f4) ((rd_T56 l0_2 t4).f5) x7007_51 ((rd_T56 l0_2 t4).f7) ((rd_T56 l0_2 t4).f8)=some (r1,r2,r3,r4,r5))∧Aside0 (kq≤kj56)∧Aside0 (Kd.R k56 56 wc w0.heap.size (fun k_=>((P0_2_ k_∨P0_3_ k_)∨w.heap.size≤k_)∧k_≠gb6) (.slice (some ad5) l0_2.length co7) l0_2)∧Aside0 (Kd.R (Kd.int .i64) 3 wc w0.heap.size (fun k_=>((P0_2_ k_∨P0_3_ k_)∨w.heap.size≤k_)) (.slice Ao8 l0_3.length co8) l0_3)∧Aside0 (wc.heap[gb1]?=some (.cells #[.int .i64 a0_0,.int .i64 a0_1,(.slice (some ad5) l0_2.length co7),(.slice Ao8 l0_3.length co8)] 45 (0,0)))∧Aside0 (wc.heap[gb2]?=some (.cells #[.int .i64 0,.int .i64 0,(.slice none 0 0),(.slice none 0 0)] 45 (0,0)))∧Aside0 (wc.heap[gb6]?=some (.cells #[.int .i64 ((rd_T56 l0_2 t4).f0),.int .i64 ((rd_T56 l0_2 t4).f1.f0),.int .i64 ((rd_T56 l0_2 t4).f1.f1),.string x7003_56,.bool x7004_61,.bool ((rd_T56 l0_2 t4).f4),.bool ((rd_T56 l0_2 t4).f5),.int .i64 x7007_51,.int .i64 ((rd_T56 l0_2 t4).f7),.int .i64 ((rd_T56 l0_2 t4).f8)] 56 (0,0)))∧Aside0 (Kept w wc (fun k_=>P0_2_ k_∨P0_3_ k_))∧Aside0 (Below w0.heap.size w0 wc))
             case first =>
              have H:=HC62.out
              clear HC62
              by_cases c63:a2=2
              ·
               rw [if_pos c63] at H
               have c63b0:(a2 == 2)=true:=beq_iff_eq.mpr c63
               have c63b1:(a2 != 2)=false:=bne_eq_false_iff_eq.mpr c63
               clear c63
               (first|rw [c63b0]|(simp only [i64_w,i32_w];rw [c63b0])|skip)
               have H':=Aside0.mk H
               clear H
               have hnb64:=NB6_1.out
               have hnc64:=NB1_6.out
               have hnb65:=NB6_2.out
               have hnc65:=NB2_6.out
               have hcz66_0:wc.cell? ⟨gb6,0,none⟩=some (.int .i64 ((rd_T56 l0_2 t4).f0)):=(blk_cell BK6.out 0).trans rfl
               have hcz66_1:wc.cell? ⟨gb6,1,none⟩=some (.int .i64 ((rd_T56 l0_2 t4).f1.f0)):=(blk_cell BK6.out 1).trans rfl
               have hcz66_2:wc.cell? ⟨gb6,2,none⟩=some (.int .i64 ((rd_T56 l0_2 t4).f1.f1)):=(blk_cell BK6.out 2).trans rfl
               have hcz66_3:wc.cell? ⟨gb6,3,none⟩=some (.string x7003_56):=(blk_cell BK6.out 3).trans rfl
               have hcz66_4:wc.cell? ⟨gb6,4,none⟩=some (.bool ((rd_T56 l0_2 t4).f3)):=(blk_cell BK6.out 4).trans rfl
               have hcz66_5:wc.cell? ⟨gb6,5,none⟩=some (.bool ((rd_T56 l0_2 t4).f4)):=(blk_cell BK6.out 5).trans rfl
               have hcz66_6:wc.cell? ⟨gb6,6,none⟩=some (.bool ((rd_T56 l0_2 t4).f5)):=(blk_cell BK6.out 6).trans rfl
               have hcz66_7:wc.cell? ⟨gb6,7,none⟩=some (.int .i64 x7007_51):=(blk_cell BK6.out 7).trans rfl
               have hcz66_8:wc.cell? ⟨gb6,8,none⟩=some (.int .i64 ((rd_T56 l0_2 t4).f7)):=(blk_cell BK6.out 8).trans rfl
               have hcz66_9:wc.cell? ⟨gb6,9,none⟩=some (.int .i64 ((rd_T56 l0_2 t4).f8)):=(blk_cell BK6.out 9).trans rfl
               have hfz66_0:=blk_frozen BK6.out 0
               have hfz66_1:=blk_frozen BK6.out 1
               have hfz66_2:=blk_frozen BK6.out 2
               have hfz66_3:=blk_frozen BK6.out 3
               have hfz66_4:=blk_frozen BK6.out 4
               have hfz66_5:=blk_frozen BK6.out 5
               have hfz66_6:=blk_frozen BK6.out 6
               have hfz66_7:=blk_frozen BK6.out 7
               have hfz66_8:=blk_frozen BK6.out 8
               have hfz66_9:=blk_frozen BK6.out 9
               go_wp2
               go_meet
               case rel=>exact ⟨_,((a3 == 1)),H',⟨by have:=HJ5.out;have:=HJ38.out;have:=HJ51.out;have:=HJ56.out;first|omega|exact Nat.le_refl _⟩,⟨by (with_reducible repeat (first|apply Kd.R_alloc|apply Kd.R_drewN|apply Kd.R_drew));exact Kd.R_mono (Kd.R_far (p:=⟨gb6,4,none⟩) (Kd.R_mono HO_2002.out (fun k_ hk=>(⟨hk,hk.2⟩:_∧k_≠gb6))) (fun _ hk=>hk.2) (.bool (a3 == 1))) (fun _ hk=>⟨hk.1.1,hk.1.2⟩)⟩,⟨by (with_reducible repeat (first|apply Kd.R_alloc|apply Kd.R_drewN|apply Kd.R_drew));exact Kd.R_mono (Kd.R_far (p:=⟨gb6,4,none⟩) (Kd.R_types HO_2003.out BK6.out (by decide)) (fun _ hk=>hk.2) (.bool (a3 == 1))) (fun _ hk=>hk.1)⟩,⟨by (with_reducible repeat (first|refine blk_drewN ?_ _|refine blk_drew ?_|refine blk_alloc ?_ _));refine blk_far ?_ NB1_6.out _;(with_reducible repeat (first|refine blk_drewN ?_ _|refine blk_drew ?_|refine blk_alloc ?_ _));exact BK1.out⟩,⟨by (with_reducible repeat (first|refine blk_drewN ?_ _|refine blk_drew ?_|refine blk_alloc ?_ _));refine blk_far ?_ NB2_6.out _;(with_reducible repeat (first|refine blk_drewN ?_ _|refine blk_drew ?_|refine blk_alloc ?_ _));exact BK2.out⟩,⟨by (with_reducible repeat (first|refine blk_drewN ?_ _|refine blk_drew ?_|refine blk_alloc ?_ _));refine blk_put (cs:=#[.int .i64 ((rd_T56 l0_2 t4).f0),.int .i64 ((rd_T56 l0_2 t4).f1.f0),.int .i64 ((rd_T56 l0_2 t4).f1.f1),.string x7003_56,.bool ((rd_T56 l0_2 t4).f3),.bool ((rd_T56 l0_2 t4).f4),.bool ((rd_T56 l0_2 t4).f5),.int .i64 x7007_51,.int .i64 ((rd_T56 l0_2 t4).f7),.int .i64 ((rd_T56 l0_2 t4).f8)]) ?_ 4 _ rfl;(with_reducible repeat (first|refine blk_drewN ?_ _|refine blk_drew ?_|refine blk_alloc ?_ _));exact BK6.out⟩,⟨by repeat (first|(with_reducible first|exact HK.out|apply Kept.alloc|apply Kept.drewN|apply Kept.drew|refine Kept.setCell ?_ (.inr GW1.out) _|refine Kept.setCell ?_ (.inr GW2.out) _|refine Kept.setCell ?_ (.inr GW6.out) _)|exact HK.out)⟩,⟨by repeat (first|(with_reducible first|exact HB.out|apply below_alloc|apply pw_below_drewN|apply below_drew1|refine below_set ?_ GE1.out|refine below_set ?_ GE2.out|refine below_set ?_ GE6.out)|exact HB.out)⟩⟩
              ·
               rw [if_neg c63] at H
               have c63b0:(a2 == 2)=false:=beq_eq_false_iff_ne.mpr c63
               have c63b1:(a2 != 2)=true:=bne_iff_ne.mpr c63
               (first|rw [c63b0]|(simp only [i64_w,i32_w];rw [c63b0])|skip)
               have H':=Aside0.mk H
               clear H
               go_wp2
               go_meet
               case rel=>exact ⟨_,(((rd_T56 l0_2 t4).f3)),H',⟨by have:=HJ5.out;have:=HJ38.out;have:=HJ51.out;have:=HJ56.out;first|omega|exact Nat.le_refl _⟩,⟨by (with_reducible repeat (first|apply Kd.R_alloc|apply Kd.R_drewN|apply Kd.R_drew));exact HO_2002.out⟩,⟨by (with_reducible repeat (first|apply Kd.R_alloc|apply Kd.R_drewN|apply Kd.R_drew));exact HO_2003.out⟩,⟨by (with_reducible repeat (first|refine blk_drewN ?_ _|refine blk_drew ?_|refine blk_alloc ?_ _));exact BK1.out⟩,⟨by (with_reducible repeat (first|refine blk_drewN ?_ _|refine blk_drew ?_|refine blk_alloc ?_ _));exact BK2.out⟩,⟨by (with_reducible repeat (first|refine blk_drewN ?_ _|refine blk_drew ?_|refine blk_alloc ?_ _));exact BK6.out⟩,⟨by repeat (first|(with_reducible first|exact HK.out|apply Kept.alloc|apply Kept.drewN|apply Kept.drew|refine Kept.setCell ?_ (.inr GW1.out) _|refine Kept.setCell ?_ (.inr GW2.out) _|refine Kept.setCell ?_ (.inr GW6.out) _)|exact HK.out)⟩,⟨by repeat (first|(with_reducible first|exact HB.out|apply below_alloc|apply pw_below_drewN|apply below_drew1|refine below_set ?_ GE1.out|refine below_set ?_ GE2.out|refine below_set ?_ GE6.out)|exact HB.out)⟩⟩
             case rest =>
              clear HC62
              try clear c1
              try clear c2
              try clear p2
              try clear c3
              try clear c4
              try clear c5
              try clear p5
              try clear q5
              try clear hx5
              try clear c6
              try clear c7
              try clear c11
              try clear c11b0
              try clear c11b1
              try clear c13
              try clear c14
              try clear c14b0
              try clear c14b1
              try clear c15
              try clear c15b0
              try clear c15b1
              try clear c16
              try clear c16b0
              try clear c16b1
              try clear c17
              try clear c17b0
              try clear c18
              try clear c18b0
              try clear c18b1
              try clear c19
              try clear c19b0
              try clear c20
              try clear c20b0
              try clear c20b1
              try clear c21
              try clear c21b0
              try clear c21b1
              try clear c22
              try clear c22b0
              try clear c22b1
              try clear c23
              try clear c23b0
              try clear c24
              try clear c24b0
              try clear c24b1
              try clear c25
              try clear c25b0
              try clear c26
              try clear c27
              try clear c31
              try clear c31b0
              try clear c32
              try clear c37
              try clear c37b0
              try clear c38
              try clear c38b0
              try clear c40
              try clear c45
              try clear c46
              try clear c48
              try clear c48b0
              try clear c48b1
              try clear c49
              try clear c50
              try clear c53
              try clear c54
              try clear c55
              try clear c58
              try clear c58b0
              try clear c58b1
              try clear c59
              try clear c60
              try clear c63
              try clear c63b0
              try clear c63b1
              try clear c64
              try clear c65
              try clear hcz28_0
              try clear hcz28_1
              try clear hcz28_2
              try clear hcz28_3
              try clear hcz29_0
              try clear hcz29_1
              try clear hcz29_2
              try clear hcz29_3
              try clear hcz33_0
              try clear hcz33_1
              try clear hcz33_2
              try clear hcz33_3
              try clear hcz35_0
              try clear hcz35_1
              try clear hcz35_2
              try clear hcz35_3
              try clear hcz36_0
              try clear hcz36_1
              try clear hcz36_2
              try clear hcz36_3
              try clear hcz41_0
              try clear hcz41_1
              try clear hcz41_2
              try clear hcz41_3
              try clear hcz43_0
              try clear hcz43_1
              try clear hcz43_2
              try clear hcz43_3
              try clear hcz47_0
              try clear hcz47_1
              try clear hcz47_2
              try clear hcz47_3
              try clear hcz47_4
              try clear hcz47_5
              try clear hcz47_6
              try clear hcz47_7
              try clear hcz47_8
              try clear hcz47_9
              try clear hcz51_0
              try clear hcz51_1
              try clear hcz51_2
              try clear hcz51_3
              try clear hcz51_4
              try clear hcz51_5
              try clear hcz51_6
              try clear hcz51_7
              try clear hcz51_8
              try clear hcz51_9
              try clear hcz56_0
              try clear hcz56_1
              try clear hcz56_2
              try clear hcz56_3
              try clear hcz56_4
              try clear hcz56_5
              try clear hcz56_6
              try clear hcz56_7
              try clear hcz56_8
              try clear hcz56_9
              try clear hcz61_0
              try clear hcz61_1
              try clear hcz61_2
              try clear hcz61_3
              try clear hcz61_4
              try clear hcz61_5
              try clear hcz61_6
              try clear hcz61_7
              try clear hcz61_8
              try clear hcz61_9
              try clear hcz66_0
              try clear hcz66_1
              try clear hcz66_2
              try clear hcz66_3
              try clear hcz66_4
              try clear hcz66_5
              try clear hcz66_6
              try clear hcz66_7
              try clear hcz66_8
              try clear hcz66_9
              try clear hfz28_0
              try clear hfz28_1
              try clear hfz28_2
              try clear hfz28_3
              try clear hfz29_0
              try clear hfz29_1
              try clear hfz29_2
              try clear hfz29_3
              try clear hfz33_0
              try clear hfz33_1
              try clear hfz33_2
              try clear hfz33_3
              try clear hfz35_0
              try clear hfz35_1
              try clear hfz35_2
              try clear hfz35_3
              try clear hfz36_0
              try clear hfz36_1
              try clear hfz36_2
              try clear hfz36_3
              try clear hfz41_0
              try clear hfz41_1
              try clear hfz41_2
              try clear hfz41_3
              try clear hfz43_0
              try clear hfz43_1
              try clear hfz43_2
              try clear hfz43_3
              try clear hfz47_0
              try clear hfz47_1
              try clear hfz47_2
              try clear hfz47_3
              try clear hfz47_4
              try clear hfz47_5
              try clear hfz47_6
              try clear hfz47_7
              try clear hfz47_8
              try clear hfz47_9
              try clear hfz51_0
              try clear hfz51_1
              try clear hfz51_2
              try clear hfz51_3
              try clear hfz51_4
              try clear hfz51_5
              try clear hfz51_6
              try clear hfz51_7
              try clear hfz51_8
              try clear hfz51_9
              try clear hfz56_0
              try clear hfz56_1
              try clear hfz56_2
              try clear hfz56_3
              try clear hfz56_4
              try clear hfz56_5
              try clear hfz56_6
              try clear hfz56_7
              try clear hfz56_8
              try clear hfz56_9
              try clear hfz61_0
              try clear hfz61_1
              try clear hfz61_2
              try clear hfz61_3
              try clear hfz61_4
              try clear hfz61_5
              try clear hfz61_6
              try clear hfz61_7
              try clear hfz61_8
              try clear hfz61_9
              try clear hfz66_0
              try clear hfz66_1
              try clear hfz66_2
              try clear hfz66_3
              try clear hfz66_4
              try clear hfz66_5
              try clear hfz66_6
              try clear hfz66_7
              try clear hfz66_8
              try clear hfz66_9
              try clear hx5_0
              try clear hx5_1
              try clear hx5_2
              try clear hx5_3
              try clear hx5_4
              try clear hx5_5
              try clear hx5_6
              try clear hx5_7
              try clear hx5_8
              try clear hx5_9
              try clear p2
              try clear p5
              try clear q5
              obtain ⟨kq,x7004_61,HA,HJ61,HO_2002,HO_2003,BK1,BK2,BK6,HK,HB⟩:=hcut
              cases kq with
              | zero=>exact absurd HA.out (by simp [mosaicref18_Table_Set.j4])
              | succ kj61 =>
               have H:=HA.out
               clear HA
               simp only [mosaicref18_Table_Set.j4] at H
               have HC67:=Aside0.mk H
               clear H
               go_upto_if 74 with (fail)
               go_cut [] (fun wc=>∃ (kq:Nat) (x7005_66:Bool),Aside0 (mosaicref18_Table_Set.j5 kq a2 a3 a0_0 a0_1 l0_2 l0_3 ((rd_T56 l0_2 t4).f0) ((rd_T56 l0_2 t4).f1.f0) ((rd_T56 l0_2 t4).f1.f1) x7003_56 x7004_61 x7005_66 ((rd_T56 l0_2 t4).f5) x7007_51 ((rd_T56 l0_2 t4).f7) ((rd_T56 l0_2 t4).f8)=some (r1,r2,r3,r4,r5))∧Aside0 (kq≤kj61)∧Aside0 (Kd.R k56 56 wc w0.heap.size (fun k_=>((P0_2_ k_∨P0_3_ k_)∨w.heap.size≤k_)∧k_≠gb6) (.slice (some ad5) l0_2.length co7) l0_2)∧Aside0 (Kd.R (Kd.int .i64) 3 wc w0.heap.size (fun k_=>((P0_2_ k_∨P0_3_ k_)∨w.heap.size≤k_)) (.slice Ao8 l0_3.length co8) l0_3)∧Aside0 (wc.heap[gb1]?=some (.cells #[.int .i64 a0_0,.int .i64 a0_1,(.slice (some ad5) l0_2.length co7),(.slice Ao8 l0_3.length co8)] 45 (0,0)))∧Aside0 (wc.heap[gb2]?=some (.cells #[.int .i64 0,.int .i64 0,(.slice none 0 0),(.slice none 0 0)] 45 (0,0)))∧Aside0 (wc.heap[gb6]?=some (.cells #[.int .i64 ((rd_T56 l0_2 t4).f0),.int .i64 ((rd_T56 l0_2 t4).f1.f0),.int .i64 ((rd_T56 l0_2 t4).f1.f1),.string x7003_56,.bool x7004_61,.bool x7005_66,.bool ((rd_T56 l0_2 t4).f5),.int .i64 x7007_51,.int .i64 ((rd_T56 l0_2 t4).f7),.int .i64 ((rd_T56 l0_2 t4).f8)] 56 (0,0)))∧Aside0 (Kept w wc (fun k_=>P0_2_ k_∨P0_3_ k_))∧Aside0 (Below w0.heap.size w0 wc))
               case first =>
                have H:=HC67.out
                clear HC67
                by_cases c68:a2=3
                ·
                 rw [if_pos c68] at H
                 have c68b0:(a2 == 3)=true:=beq_iff_eq.mpr c68
                 have c68b1:(a2 != 3)=false:=bne_eq_false_iff_eq.mpr c68
                 clear c68
                 (first|rw [c68b0]|(simp only [i64_w,i32_w];rw [c68b0])|skip)
                 have H':=Aside0.mk H
                 clear H
                 have hnb69:=NB6_1.out
                 have hnc69:=NB1_6.out
                 have hnb70:=NB6_2.out
                 have hnc70:=NB2_6.out
                 have hcz71_0:wc.cell? ⟨gb6,0,none⟩=some (.int .i64 ((rd_T56 l0_2 t4).f0)):=(blk_cell BK6.out 0).trans rfl
                 have hcz71_1:wc.cell? ⟨gb6,1,none⟩=some (.int .i64 ((rd_T56 l0_2 t4).f1.f0)):=(blk_cell BK6.out 1).trans rfl
                 have hcz71_2:wc.cell? ⟨gb6,2,none⟩=some (.int .i64 ((rd_T56 l0_2 t4).f1.f1)):=(blk_cell BK6.out 2).trans rfl
                 have hcz71_3:wc.cell? ⟨gb6,3,none⟩=some (.string x7003_56):=(blk_cell BK6.out 3).trans rfl
                 have hcz71_4:wc.cell? ⟨gb6,4,none⟩=some (.bool x7004_61):=(blk_cell BK6.out 4).trans rfl
                 have hcz71_5:wc.cell? ⟨gb6,5,none⟩=some (.bool ((rd_T56 l0_2 t4).f4)):=(blk_cell BK6.out 5).trans rfl
                 have hcz71_6:wc.cell? ⟨gb6,6,none⟩=some (.bool ((rd_T56 l0_2 t4).f5)):=(blk_cell BK6.out 6).trans rfl
                 have hcz71_7:wc.cell? ⟨gb6,7,none⟩=some (.int .i64 x7007_51):=(blk_cell BK6.out 7).trans rfl
                 have hcz71_8:wc.cell? ⟨gb6,8,none⟩=some (.int .i64 ((rd_T56 l0_2 t4).f7)):=(blk_cell BK6.out 8).trans rfl
                 have hcz71_9:wc.cell? ⟨gb6,9,none⟩=some (.int .i64 ((rd_T56 l0_2 t4).f8)):=(blk_cell BK6.out 9).trans rfl
                 have hfz71_0:=blk_frozen BK6.out 0
                 have hfz71_1:=blk_frozen BK6.out 1
                 have hfz71_2:=blk_frozen BK6.out 2
                 have hfz71_3:=blk_frozen BK6.out 3
                 have hfz71_4:=blk_frozen BK6.out 4
                 have hfz71_5:=blk_frozen BK6.out 5
                 have hfz71_6:=blk_frozen BK6.out 6
                 have hfz71_7:=blk_frozen BK6.out 7
                 have hfz71_8:=blk_frozen BK6.out 8
                 have hfz71_9:=blk_frozen BK6.out 9
                 go_wp2
                 go_meet
                 case rel=>exact ⟨_,((a3 == 1)),H',⟨by have:=HJ5.out;have:=HJ38.out;have:=HJ51.out;have:=HJ56.out;have:=HJ61.out;first|omega|exact Nat.le_refl _⟩,⟨by (with_reducible repeat (first|apply Kd.R_alloc|apply Kd.R_drewN|apply Kd.R_drew));exact Kd.R_mono (Kd.R_far (p:=⟨gb6,5,none⟩) (Kd.R_mono HO_2002.out (fun k_ hk=>(⟨hk,hk.2⟩:_∧k_≠gb6))) (fun _ hk=>hk.2) (.bool (a3 == 1))) (fun _ hk=>⟨hk.1.1,hk.1.2⟩)⟩,⟨by (with_reducible repeat (first|apply Kd.R_alloc|apply Kd.R_drewN|apply Kd.R_drew));exact Kd.R_mono (Kd.R_far (p:=⟨gb6,5,none⟩) (Kd.R_types HO_2003.out BK6.out (by decide)) (fun _ hk=>hk.2) (.bool (a3 == 1))) (fun _ hk=>hk.1)⟩,⟨by (with_reducible repeat (first|refine blk_drewN ?_ _|refine blk_drew ?_|refine blk_alloc ?_ _));refine blk_far ?_ NB1_6.out _;(with_reducible repeat (first|refine blk_drewN ?_ _|refine blk_drew ?_|refine blk_alloc ?_ _));exact BK1.out⟩,⟨by (with_reducible repeat (first|refine blk_drewN ?_ _|refine blk_drew ?_|refine blk_alloc ?_ _));refine blk_far ?_ NB2_6.out _;(with_reducible repeat (first|refine blk_drewN ?_ _|refine blk_drew ?_|refine blk_alloc ?_ _));exact BK2.out⟩,⟨by (with_reducible repeat (first|refine blk_drewN ?_ _|refine blk_drew ?_|refine blk_alloc ?_ _));refine blk_put (cs:=#[.int .i64 ((rd_T56 l0_2 t4).f0),.int .i64 ((rd_T56 l0_2 t4).f1.f0),.int .i64 ((rd_T56 l0_2 t4).f1.f1),.string x7003_56,.bool x7004_61,.bool ((rd_T56 l0_2 t4).f4),.bool ((rd_T56 l0_2 t4).f5),.int .i64 x7007_51,.int .i64 ((rd_T56 l0_2 t4).f7),.int .i64 ((rd_T56 l0_2 t4).f8)]) ?_ 5 _ rfl;(with_reducible repeat (first|refine blk_drewN ?_ _|refine blk_drew ?_|refine blk_alloc ?_ _));exact BK6.out⟩,⟨by repeat (first|(with_reducible first|exact HK.out|apply Kept.alloc|apply Kept.drewN|apply Kept.drew|refine Kept.setCell ?_ (.inr GW1.out) _|refine Kept.setCell ?_ (.inr GW2.out) _|refine Kept.setCell ?_ (.inr GW6.out) _)|exact HK.out)⟩,⟨by repeat (first|(with_reducible first|exact HB.out|apply below_alloc|apply pw_below_drewN|apply below_drew1|refine below_set ?_ GE1.out|refine below_set ?_ GE2.out|refine below_set ?_ GE6.out)|exact HB.out)⟩⟩
                ·
                 rw [if_neg c68] at H
                 have c68b0:(a2 == 3)=false:=beq_eq_false_iff_ne.mpr c68
                 have c68b1:(a2 != 3)=true:=bne_iff_ne.mpr c68
                 (first|rw [c68b0]|(simp only [i64_w,i32_w];rw [c68b0])|skip)
                 have H':=Aside0.mk H
                 clear H
                 go_wp2
                 go_meet
                 case rel=>exact ⟨_,(((rd_T56 l0_2 t4).f4)),H',⟨by have:=HJ5.out;have:=HJ38.out;have:=HJ51.out;have:=HJ56.out;have:=HJ61.out;first|omega|exact Nat.le_refl _⟩,⟨by (with_reducible repeat (first|apply Kd.R_alloc|apply Kd.R_drewN|apply Kd.R_drew));exact HO_2002.out⟩,⟨by (with_reducible repeat (first|apply Kd.R_alloc|apply Kd.R_drewN|apply Kd.R_drew));exact HO_2003.out⟩,⟨by (with_reducible repeat (first|refine blk_drewN ?_ _|refine blk_drew ?_|refine blk_alloc ?_ _));exact BK1.out⟩,⟨by (with_reducible repeat (first|refine blk_drewN ?_ _|refine blk_drew ?_|refine blk_alloc ?_ _));exact BK2.out⟩,⟨by (with_reducible repeat (first|refine blk_drewN ?_ _|refine blk_drew ?_|refine blk_alloc ?_ _));exact BK6.out⟩,⟨by repeat (first|(with_reducible first|exact HK.out|apply Kept.alloc|apply Kept.drewN|apply Kept.drew|refine Kept.setCell ?_ (.inr GW1.out) _|refine Kept.setCell ?_ (.inr GW2.out) _|refine Kept.setCell ?_ (.inr GW6.out) _)|exact HK.out)⟩,⟨by repeat (first|(with_reducible first|exact HB.out|apply below_alloc|apply pw_below_drewN|apply below_drew1|refine below_set ?_ GE1.out|refine below_set ?_ GE2.out|refine below_set ?_ GE6.out)|exact HB.out)⟩⟩
               case rest =>
                clear HC67
                try clear c1
                try clear c2
                try clear p2
                try clear c3
                try clear c4
                try clear c5
                try clear p5
                try clear q5
                try clear hx5
                try clear c6
                try clear c7
                try clear c11
                try clear c11b0
                try clear c11b1
                try clear c13
                try clear c14
                try clear c14b0
                try clear c14b1
                try clear c15
                try clear c15b0
                try clear c15b1
                try clear c16
                try clear c16b0
                try clear c16b1
                try clear c17
                try clear c17b0
                try clear c18
                try clear c18b0
                try clear c18b1
                try clear c19
                try clear c19b0
                try clear c20
                try clear c20b0
                try clear c20b1
                try clear c21
                try clear c21b0
                try clear c21b1
                try clear c22
                try clear c22b0
                try clear c22b1
                try clear c23
                try clear c23b0
                try clear c24
                try clear c24b0
                try clear c24b1
                try clear c25
                try clear c25b0
                try clear c26
                try clear c27
                try clear c31
                try clear c31b0
                try clear c32
                try clear c37
                try clear c37b0
                try clear c38
                try clear c38b0
                try clear c40
                try clear c45
                try clear c46
                try clear c48
                try clear c48b0
                try clear c48b1
                try clear c49
                try clear c50
                try clear c53
                try clear c54
                try clear c55
                try clear c58
                try clear c58b0
                try clear c58b1
                try clear c59
                try clear c60
                try clear c63
                try clear c63b0
                try clear c63b1
                try clear c64
                try clear c65
                try clear c68
                try clear c68b0
                try clear c68b1
                try clear c69
                try clear c70
                try clear hcz28_0
                try clear hcz28_1
                try clear hcz28_2
                try clear hcz28_3
                try clear hcz29_0
                try clear hcz29_1
                try clear hcz29_2
                try clear hcz29_3
                try clear hcz33_0
                try clear hcz33_1
                try clear hcz33_2
                try clear hcz33_3
                try clear hcz35_0
                try clear hcz35_1
                try clear hcz35_2
                try clear hcz35_3
                try clear hcz36_0
                try clear hcz36_1
                try clear hcz36_2
                try clear hcz36_3
                try clear hcz41_0
                try clear hcz41_1
                try clear hcz41_2
                try clear hcz41_3
                try clear hcz43_0
                try clear hcz43_1
                try clear hcz43_2
                try clear hcz43_3
                try clear hcz47_0
                try clear hcz47_1
                try clear hcz47_2
                try clear hcz47_3
                try clear hcz47_4
                try clear hcz47_5
                try clear hcz47_6
                try clear hcz47_7
                try clear hcz47_8
                try clear hcz47_9
                try clear hcz51_0
                try clear hcz51_1
                try clear hcz51_2
                try clear hcz51_3
                try clear hcz51_4
                try clear hcz51_5
                try clear hcz51_6
                try clear hcz51_7
                try clear hcz51_8
                try clear hcz51_9
                try clear hcz56_0
                try clear hcz56_1
                try clear hcz56_2
                try clear hcz56_3
                try clear hcz56_4
                try clear hcz56_5
                try clear hcz56_6
                try clear hcz56_7
                try clear hcz56_8
                try clear hcz56_9
                try clear hcz61_0
                try clear hcz61_1
                try clear hcz61_2
                try clear hcz61_3
                try clear hcz61_4
                try clear hcz61_5
                try clear hcz61_6
                try clear hcz61_7
                try clear hcz61_8
                try clear hcz61_9
                try clear hcz66_0
                try clear hcz66_1
                try clear hcz66_2
                try clear hcz66_3
                try clear hcz66_4
                try clear hcz66_5
                try clear hcz66_6
                try clear hcz66_7
                try clear hcz66_8
                try clear hcz66_9
                try clear hcz71_0
                try clear hcz71_1
                try clear hcz71_2
                try clear hcz71_3
                try clear hcz71_4
                try clear hcz71_5
                try clear hcz71_6
                try clear hcz71_7
                try clear hcz71_8
                try clear hcz71_9
                try clear hfz28_0
                try clear hfz28_1
                try clear hfz28_2
                try clear hfz28_3
                try clear hfz29_0
                try clear hfz29_1
                try clear hfz29_2
                try clear hfz29_3
                try clear hfz33_0
                try clear hfz33_1
                try clear hfz33_2
                try clear hfz33_3
                try clear hfz35_0
                try clear hfz35_1
                try clear hfz35_2
                try clear hfz35_3
                try clear hfz36_0
                try clear hfz36_1
                try clear hfz36_2
                try clear hfz36_3
                try clear hfz41_0
                try clear hfz41_1
                try clear hfz41_2
                try clear hfz41_3
                try clear hfz43_0
                try clear hfz43_1
                try clear hfz43_2
                try clear hfz43_3
                try clear hfz47_0
                try clear hfz47_1
                try clear hfz47_2
                try clear hfz47_3
                try clear hfz47_4
                try clear hfz47_5
                try clear hfz47_6
                try clear hfz47_7
                try clear hfz47_8
                try clear hfz47_9
                try clear hfz51_0
                try clear hfz51_1
                try clear hfz51_2
                try clear hfz51_3
                try clear hfz51_4
                try clear hfz51_5
                try clear hfz51_6
                try clear hfz51_7
                try clear hfz51_8
                try clear hfz51_9
                try clear hfz56_0
                try clear hfz56_1
                try clear hfz56_2
                try clear hfz56_3
                try clear hfz56_4
                try clear hfz56_5
                try clear hfz56_6
                try clear hfz56_7
                try clear hfz56_8
                try clear hfz56_9
                try clear hfz61_0
                try clear hfz61_1
                try clear hfz61_2
                try clear hfz61_3
                try clear hfz61_4
                try clear hfz61_5
                try clear hfz61_6
                try clear hfz61_7
                try clear hfz61_8
                try clear hfz61_9
                try clear hfz66_0
                try clear hfz66_1
                try clear hfz66_2
                try clear hfz66_3
                try clear hfz66_4
                try clear hfz66_5
                try clear hfz66_6
                try clear hfz66_7
                try clear hfz66_8
                try clear hfz66_9
                try clear hfz71_0
                try clear hfz71_1
                try clear hfz71_2
                try clear hfz71_3
                try clear hfz71_4
                try clear hfz71_5
                try clear hfz71_6
                try clear hfz71_7
                try clear hfz71_8
                try clear hfz71_9
                try clear hx5_0
                try clear hx5_1
                try clear hx5_2
                try clear hx5_3
                try clear hx5_4
                try clear hx5_5
                try clear hx5_6
                try clear hx5_7
                try clear hx5_8
                try clear hx5_9
                try clear p2
                try clear p5
                try clear q5
                obtain ⟨kq,x7005_66,HA,HJ66,HO_2002,HO_2003,BK1,BK2,BK6,HK,HB⟩:=hcut
                cases kq with
                | zero=>exact absurd HA.out (by simp [mosaicref18_Table_Set.j5])
                | succ kj66 =>
                 have H:=HA.out
                 clear HA
                 simp only [mosaicref18_Table_Set.j5] at H
                 have HC72:=Aside0.mk H
                 clear H
                 go_upto_if 79 with (fail)
                 go_cut [] (fun wc=>∃ (kq:Nat) (x7006_71:Bool),Aside0 (mosaicref18_Table_Set.j6 kq a2 a3 a0_0 a0_1 l0_2 l0_3 ((rd_T56 l0_2 t4).f0) ((rd_T56 l0_2 t4).f1.f0) ((rd_T56 l0_2 t4).f1.f1) x7003_56 x7004_61 x7005_66 x7006_71 x7007_51 ((rd_T56 l0_2 t4).f7) ((rd_T56 l0_2 t4).f8)=some (r1,r2,r3,r4,r5))∧Aside0 (kq≤kj66)∧Aside0 (Kd.R k56 56 wc w0.heap.size (fun k_=>((P0_2_ k_∨P0_3_ k_)∨w.heap.size≤k_)∧k_≠gb6) (.slice (some ad5) l0_2.length co7) l0_2)∧Aside0 (Kd.R (Kd.int .i64) 3 wc w0.heap.size (fun k_=>((P0_2_ k_∨P0_3_ k_)∨w.heap.size≤k_)) (.slice Ao8 l0_3.length co8) l0_3)∧Aside0 (wc.heap[gb1]?=some (.cells #[.int .i64 a0_0,.int .i64 a0_1,(.slice (some ad5) l0_2.length co7),(.slice Ao8 l0_3.length co8)] 45 (0,0)))∧Aside0 (wc.heap[gb2]?=some (.cells #[.int .i64 0,.int .i64 0,(.slice none 0 0),(.slice none 0 0)] 45 (0,0)))∧Aside0 (wc.heap[gb6]?=some (.cells #[.int .i64 ((rd_T56 l0_2 t4).f0),.int .i64 ((rd_T56 l0_2 t4).f1.f0),.int .i64 ((rd_T56 l0_2 t4).f1.f1),.string x7003_56,.bool x7004_61,.bool x7005_66,.bool x7006_71,.int .i64 x7007_51,.int .i64 ((rd_T56 l0_2 t4).f7),.int .i64 ((rd_T56 l0_2 t4).f8)] 56 (0,0)))∧Aside0 (Kept w wc (fun k_=>P0_2_ k_∨P0_3_ k_))∧Aside0 (Below w0.heap.size w0 wc))
                 case first =>
                  have H:=HC72.out
                  clear HC72
                  by_cases c73:a2=4
                  ·
                   rw [if_pos c73] at H
                   have c73b0:(a2 == 4)=true:=beq_iff_eq.mpr c73
                   have c73b1:(a2 != 4)=false:=bne_eq_false_iff_eq.mpr c73
                   clear c73
                   (first|rw [c73b0]|(simp only [i64_w,i32_w];rw [c73b0])|skip)
                   have H':=Aside0.mk H
                   clear H
                   have hnb74:=NB6_1.out
                   have hnc74:=NB1_6.out
                   have hnb75:=NB6_2.out
                   have hnc75:=NB2_6.out
                   have hcz76_0:wc.cell? ⟨gb6,0,none⟩=some (.int .i64 ((rd_T56 l0_2 t4).f0)):=(blk_cell BK6.out 0).trans rfl
                   have hcz76_1:wc.cell? ⟨gb6,1,none⟩=some (.int .i64 ((rd_T56 l0_2 t4).f1.f0)):=(blk_cell BK6.out 1).trans rfl
                   have hcz76_2:wc.cell? ⟨gb6,2,none⟩=some (.int .i64 ((rd_T56 l0_2 t4).f1.f1)):=(blk_cell BK6.out 2).trans rfl
                   have hcz76_3:wc.cell? ⟨gb6,3,none⟩=some (.string x7003_56):=(blk_cell BK6.out 3).trans rfl
                   have hcz76_4:wc.cell? ⟨gb6,4,none⟩=some (.bool x7004_61):=(blk_cell BK6.out 4).trans rfl
                   have hcz76_5:wc.cell? ⟨gb6,5,none⟩=some (.bool x7005_66):=(blk_cell BK6.out 5).trans rfl
                   have hcz76_6:wc.cell? ⟨gb6,6,none⟩=some (.bool ((rd_T56 l0_2 t4).f5)):=(blk_cell BK6.out 6).trans rfl
                   have hcz76_7:wc.cell? ⟨gb6,7,none⟩=some (.int .i64 x7007_51):=(blk_cell BK6.out 7).trans rfl
                   have hcz76_8:wc.cell? ⟨gb6,8,none⟩=some (.int .i64 ((rd_T56 l0_2 t4).f7)):=(blk_cell BK6.out 8).trans rfl
                   have hcz76_9:wc.cell? ⟨gb6,9,none⟩=some (.int .i64 ((rd_T56 l0_2 t4).f8)):=(blk_cell BK6.out 9).trans rfl
                   have hfz76_0:=blk_frozen BK6.out 0
                   have hfz76_1:=blk_frozen BK6.out 1
                   have hfz76_2:=blk_frozen BK6.out 2
                   have hfz76_3:=blk_frozen BK6.out 3
                   have hfz76_4:=blk_frozen BK6.out 4
                   have hfz76_5:=blk_frozen BK6.out 5
                   have hfz76_6:=blk_frozen BK6.out 6
                   have hfz76_7:=blk_frozen BK6.out 7
                   have hfz76_8:=blk_frozen BK6.out 8
                   have hfz76_9:=blk_frozen BK6.out 9
                   go_wp2
                   go_meet
                   case rel=>exact ⟨_,((a3 == 1)),H',⟨by have:=HJ5.out;have:=HJ38.out;have:=HJ51.out;have:=HJ56.out;have:=HJ61.out;have:=HJ66.out;first|omega|exact Nat.le_refl _⟩,⟨by (with_reducible repeat (first|apply Kd.R_alloc|apply Kd.R_drewN|apply Kd.R_drew));exact Kd.R_mono (Kd.R_far (p:=⟨gb6,6,none⟩) (Kd.R_mono HO_2002.out (fun k_ hk=>(⟨hk,hk.2⟩:_∧k_≠gb6))) (fun _ hk=>hk.2) (.bool (a3 == 1))) (fun _ hk=>⟨hk.1.1,hk.1.2⟩)⟩,⟨by (with_reducible repeat (first|apply Kd.R_alloc|apply Kd.R_drewN|apply Kd.R_drew));exact Kd.R_mono (Kd.R_far (p:=⟨gb6,6,none⟩) (Kd.R_types HO_2003.out BK6.out (by decide)) (fun _ hk=>hk.2) (.bool (a3 == 1))) (fun _ hk=>hk.1)⟩,⟨by (with_reducible repeat (first|refine blk_drewN ?_ _|refine blk_drew ?_|refine blk_alloc ?_ _));refine blk_far ?_ NB1_6.out _;(with_reducible repeat (first|refine blk_drewN ?_ _|refine blk_drew ?_|refine blk_alloc ?_ _));exact BK1.out⟩,⟨by (with_reducible repeat (first|refine blk_drewN ?_ _|refine blk_drew ?_|refine blk_alloc ?_ _));refine blk_far ?_ NB2_6.out _;(with_reducible repeat (first|refine blk_drewN ?_ _|refine blk_drew ?_|refine blk_alloc ?_ _));exact BK2.out⟩,⟨by (with_reducible repeat (first|refine blk_drewN ?_ _|refine blk_drew ?_|refine blk_alloc ?_ _));refine blk_put (cs:=#[.int .i64 ((rd_T56 l0_2 t4).f0),.int .i64 ((rd_T56 l0_2 t4).f1.f0),.int .i64 ((rd_T56 l0_2 t4).f1.f1),.string x7003_56,.bool x7004_61,.bool x7005_66,.bool ((rd_T56 l0_2 t4).f5),.int .i64 x7007_51,.int .i64 ((rd_T56 l0_2 t4).f7),.int .i64 ((rd_T56 l0_2 t4).f8)]) ?_ 6 _ rfl;(with_reducible repeat (first|refine blk_drewN ?_ _|refine blk_drew ?_|refine blk_alloc ?_ _));exact BK6.out⟩,⟨by repeat (first|(with_reducible first|exact HK.out|apply Kept.alloc|apply Kept.drewN|apply Kept.drew|refine Kept.setCell ?_ (.inr GW1.out) _|refine Kept.setCell ?_ (.inr GW2.out) _|refine Kept.setCell ?_ (.inr GW6.out) _)|exact HK.out)⟩,⟨by repeat (first|(with_reducible first|exact HB.out|apply below_alloc|apply pw_below_drewN|apply below_drew1|refine below_set ?_ GE1.out|refine below_set ?_ GE2.out|refine below_set ?_ GE6.out)|exact HB.out)⟩⟩
                  ·
                   rw [if_neg c73] at H
                   have c73b0:(a2 == 4)=false:=beq_eq_false_iff_ne.mpr c73
                   have c73b1:(a2 != 4)=true:=bne_iff_ne.mpr c73
                   (first|rw [c73b0]|(simp only [i64_w,i32_w];rw [c73b0])|skip)
                   have H':=Aside0.mk H
                   clear H
                   go_wp2
                   go_meet
                   case rel=>exact ⟨_,(((rd_T56 l0_2 t4).f5)),H',⟨by have:=HJ5.out;have:=HJ38.out;have:=HJ51.out;have:=HJ56.out;have:=HJ61.out;have:=HJ66.out;first|omega|exact Nat.le_refl _⟩,⟨by (with_reducible repeat (first|apply Kd.R_alloc|apply Kd.R_drewN|apply Kd.R_drew));exact HO_2002.out⟩,⟨by (with_reducible repeat (first|apply Kd.R_alloc|apply Kd.R_drewN|apply Kd.R_drew));exact HO_2003.out⟩,⟨by (with_reducible repeat (first|refine blk_drewN ?_ _|refine blk_drew ?_|refine blk_alloc ?_ _));exact BK1.out⟩,⟨by (with_reducible repeat (first|refine blk_drewN ?_ _|refine blk_drew ?_|refine blk_alloc ?_ _));exact BK2.out⟩,⟨by (with_reducible repeat (first|refine blk_drewN ?_ _|refine blk_drew ?_|refine blk_alloc ?_ _));exact BK6.out⟩,⟨by repeat (first|(with_reducible first|exact HK.out|apply Kept.alloc|apply Kept.drewN|apply Kept.drew|refine Kept.setCell ?_ (.inr GW1.out) _|refine Kept.setCell ?_ (.inr GW2.out) _|refine Kept.setCell ?_ (.inr GW6.out) _)|exact HK.out)⟩,⟨by repeat (first|(with_reducible first|exact HB.out|apply below_alloc|apply pw_below_drewN|apply below_drew1|refine below_set ?_ GE1.out|refine below_set ?_ GE2.out|refine below_set ?_ GE6.out)|exact HB.out)⟩⟩
                 case rest =>
                  clear HC72
                  try clear c1
                  try clear c2
                  try clear p2
                  try clear c3
                  try clear c4
                  try clear c5
                  try clear p5
                  try clear q5
                  try clear hx5
                  try clear c6
                  try clear c7
                  try clear c11
                  try clear c11b0
                  try clear c11b1
                  try clear c13
                  try clear c14
                  try clear c14b0
                  try clear c14b1
                  try clear c15
                  try clear c15b0
                  try clear c15b1
                  try clear c16
                  try clear c16b0
                  try clear c16b1
                  try clear c17
                  try clear c17b0
                  try clear c18
                  try clear c18b0
                  try clear c18b1
                  try clear c19
                  try clear c19b0
                  try clear c20
                  try clear c20b0
                  try clear c20b1
                  try clear c21
                  try clear c21b0
                  try clear c21b1
                  try clear c22
                  try clear c22b0
                  try clear c22b1
                  try clear c23
                  try clear c23b0
                  try clear c24
                  try clear c24b0
                  try clear c24b1
                  try clear c25
                  try clear c25b0
                  try clear c26
                  try clear c27
                  try clear c31
                  try clear c31b0
                  try clear c32
                  try clear c37
                  try clear c37b0
                  try clear c38
                  try clear c38b0
                  try clear c40
                  try clear c45
                  try clear c46
                  try clear c48
                  try clear c48b0
                  try clear c48b1
                  try clear c49
                  try clear c50
                  try clear c53
                  try clear c54
                  try clear c55
                  try clear c58
                  try clear c58b0
                  try clear c58b1
                  try clear c59
                  try clear c60
                  try clear c63
                  try clear c63b0
                  try clear c63b1
                  try clear c64
                  try clear c65
                  try clear c68
                  try clear c68b0
                  try clear c68b1
                  try clear c69
                  try clear c70
                  try clear c73
                  try clear c73b0
                  try clear c73b1
                  try clear c74
                  try clear c75
                  try clear hcz28_0
                  try clear hcz28_1
                  try clear hcz28_2
                  try clear hcz28_3
                  try clear hcz29_0
                  try clear hcz29_1
                  try clear hcz29_2
                  try clear hcz29_3
                  try clear hcz33_0
                  try clear hcz33_1
                  try clear hcz33_2
                  try clear hcz33_3
                  try clear hcz35_0
                  try clear hcz35_1
                  try clear hcz35_2
                  try clear hcz35_3
                  try clear hcz36_0
                  try clear hcz36_1
                  try clear hcz36_2
                  try clear hcz36_3
                  try clear hcz41_0
                  try clear hcz41_1
                  try clear hcz41_2
                  try clear hcz41_3
                  try clear hcz43_0
                  try clear hcz43_1
                  try clear hcz43_2
                  try clear hcz43_3
                  try clear hcz47_0
                  try clear hcz47_1
                  try clear hcz47_2
                  try clear hcz47_3
                  try clear hcz47_4
                  try clear hcz47_5
                  try clear hcz47_6
                  try clear hcz47_7
                  try clear hcz47_8
                  try clear hcz47_9
                  try clear hcz51_0
                  try clear hcz51_1
                  try clear hcz51_2
                  try clear hcz51_3
                  try clear hcz51_4
                  try clear hcz51_5
                  try clear hcz51_6
                  try clear hcz51_7
                  try clear hcz51_8
                  try clear hcz51_9
                  try clear hcz56_0
                  try clear hcz56_1
                  try clear hcz56_2
                  try clear hcz56_3
                  try clear hcz56_4
                  try clear hcz56_5
                  try clear hcz56_6
                  try clear hcz56_7
                  try clear hcz56_8
                  try clear hcz56_9
                  try clear hcz61_0
                  try clear hcz61_1
                  try clear hcz61_2
                  try clear hcz61_3
                  try clear hcz61_4
                  try clear hcz61_5
                  try clear hcz61_6
                  try clear hcz61_7
                  try clear hcz61_8
                  try clear hcz61_9
                  try clear hcz66_0
                  try clear hcz66_1
                  try clear hcz66_2
                  try clear hcz66_3
                  try clear hcz66_4
                  try clear hcz66_5
                  try clear hcz66_6
                  try clear hcz66_7
                  try clear hcz66_8
                  try clear hcz66_9
                  try clear hcz71_0
                  try clear hcz71_1
                  try clear hcz71_2
                  try clear hcz71_3
                  try clear hcz71_4
                  try clear hcz71_5
                  try clear hcz71_6
                  try clear hcz71_7
                  try clear hcz71_8
                  try clear hcz71_9
                  try clear hcz76_0
                  try clear hcz76_1
                  try clear hcz76_2
                  try clear hcz76_3
                  try clear hcz76_4
                  try clear hcz76_5
                  try clear hcz76_6
                  try clear hcz76_7
                  try clear hcz76_8
                  try clear hcz76_9
                  try clear hfz28_0
                  try clear hfz28_1
                  try clear hfz28_2
                  try clear hfz28_3
                  try clear hfz29_0
                  try clear hfz29_1
                  try clear hfz29_2
                  try clear hfz29_3
                  try clear hfz33_0
                  try clear hfz33_1
                  try clear hfz33_2
                  try clear hfz33_3
                  try clear hfz35_0
                  try clear hfz35_1
                  try clear hfz35_2
                  try clear hfz35_3
                  try clear hfz36_0
                  try clear hfz36_1
                  try clear hfz36_2
                  try clear hfz36_3
                  try clear hfz41_0
                  try clear hfz41_1
                  try clear hfz41_2
                  try clear hfz41_3
                  try clear hfz43_0
                  try clear hfz43_1
                  try clear hfz43_2
                  try clear hfz43_3
                  try clear hfz47_0
                  try clear hfz47_1
                  try clear hfz47_2
                  try clear hfz47_3
                  try clear hfz47_4
                  try clear hfz47_5
                  try clear hfz47_6
                  try clear hfz47_7
                  try clear hfz47_8
                  try clear hfz47_9
                  try clear hfz51_0
                  try clear hfz51_1
                  try clear hfz51_2
                  try clear hfz51_3
                  try clear hfz51_4
                  try clear hfz51_5
                  try clear hfz51_6
                  try clear hfz51_7
                  try clear hfz51_8
                  try clear hfz51_9
                  try clear hfz56_0
                  try clear hfz56_1
                  try clear hfz56_2
                  try clear hfz56_3
                  try clear hfz56_4
                  try clear hfz56_5
                  try clear hfz56_6
                  try clear hfz56_7
                  try clear hfz56_8
                  try clear hfz56_9
                  try clear hfz61_0
                  try clear hfz61_1
                  try clear hfz61_2
                  try clear hfz61_3
                  try clear hfz61_4
                  try clear hfz61_5
                  try clear hfz61_6
                  try clear hfz61_7
                  try clear hfz61_8
                  try clear hfz61_9
                  try clear hfz66_0
                  try clear hfz66_1
                  try clear hfz66_2
                  try clear hfz66_3
                  try clear hfz66_4
                  try clear hfz66_5
                  try clear hfz66_6
                  try clear hfz66_7
                  try clear hfz66_8
                  try clear hfz66_9
                  try clear hfz71_0
                  try clear hfz71_1
                  try clear hfz71_2
                  try clear hfz71_3
                  try clear hfz71_4
                  try clear hfz71_5
                  try clear hfz71_6
                  try clear hfz71_7
                  try clear hfz71_8
                  try clear hfz71_9
                  try clear hfz76_0
                  try clear hfz76_1
                  try clear hfz76_2
                  try clear hfz76_3
                  try clear hfz76_4
                  try clear hfz76_5
                  try clear hfz76_6
                  try clear hfz76_7
                  try clear hfz76_8
                  try clear hfz76_9
                  try clear hx5_0
                  try clear hx5_1
                  try clear hx5_2
                  try clear hx5_3
                  try clear hx5_4
                  try clear hx5_5
                  try clear hx5_6
                  try clear hx5_7
                  try clear hx5_8
                  try clear hx5_9
                  try clear p2
                  try clear p5
                  try clear q5
                  obtain ⟨kq,x7006_71,HA,HJ71,HO_2002,HO_2003,BK1,BK2,BK6,HK,HB⟩:=hcut
                  cases kq with
                  | zero=>exact absurd HA.out (by simp [mosaicref18_Table_Set.j6])
                  | succ kj71 =>
                   have H:=HA.out
                   clear HA
                   simp only [mosaicref18_Table_Set.j6] at H
                   by_cases c77:a2=5
                   ·
                    rw [if_pos c77] at H
                    have c77b0:(a2 == 5)=true:=beq_iff_eq.mpr c77
                    have c77b1:(a2 != 5)=false:=bne_eq_false_iff_eq.mpr c77
                    clear c77
                    by_cases c78:(wrap64 (((rd_T56 l0_2 t4).f7)+a3)) > 1099511627776
                    ·
                     rw [if_pos c78] at H
                     have c78b0:decide (1099511627776 < (wrap64 (((rd_T56 l0_2 t4).f7)+a3)))=true:=decide_eq_true c78
                     clear c78
                     replace H:=Option.bind_eq_some_iff.mp H
                     obtain ⟨⟨t7,t8,t9,t12⟩,A790,H⟩:=H
                     replace H:(some (t7,t8,t9,t12,0))=some (r1,r2,r3,r4,r5):=H
                     have A79:=Aside0.mk A790
                     clear A790
                     simp only [Option.some.injEq,Prod.mk.injEq] at H
                     obtain ⟨rfl,rfl,rfl,rfl,rfl⟩:=H
                     have hnb80:=NB6_1.out
                     have hnc80:=NB1_6.out
                     have hnb81:=NB6_2.out
                     have hnc81:=NB2_6.out
                     have hcz82_0:wc.cell? ⟨gb6,0,none⟩=some (.int .i64 ((rd_T56 l0_2 t4).f0)):=(blk_cell BK6.out 0).trans rfl
                     have hcz82_1:wc.cell? ⟨gb6,1,none⟩=some (.int .i64 ((rd_T56 l0_2 t4).f1.f0)):=(blk_cell BK6.out 1).trans rfl
                     have hcz82_2:wc.cell? ⟨gb6,2,none⟩=some (.int .i64 ((rd_T56 l0_2 t4).f1.f1)):=(blk_cell BK6.out 2).trans rfl
                     have hcz82_3:wc.cell? ⟨gb6,3,none⟩=some (.string x7003_56):=(blk_cell BK6.out 3).trans rfl
                     have hcz82_4:wc.cell? ⟨gb6,4,none⟩=some (.bool x7004_61):=(blk_cell BK6.out 4).trans rfl
                     have hcz82_5:wc.cell? ⟨gb6,5,none⟩=some (.bool x7005_66):=(blk_cell BK6.out 5).trans rfl
                     have hcz82_6:wc.cell? ⟨gb6,6,none⟩=some (.bool x7006_71):=(blk_cell BK6.out 6).trans rfl
                     have hcz82_7:wc.cell? ⟨gb6,7,none⟩=some (.int .i64 x7007_51):=(blk_cell BK6.out 7).trans rfl
                     have hcz82_8:wc.cell? ⟨gb6,8,none⟩=some (.int .i64 ((rd_T56 l0_2 t4).f7)):=(blk_cell BK6.out 8).trans rfl
                     have hcz82_9:wc.cell? ⟨gb6,9,none⟩=some (.int .i64 ((rd_T56 l0_2 t4).f8)):=(blk_cell BK6.out 9).trans rfl
                     have hfz82_0:=blk_frozen BK6.out 0
                     have hfz82_1:=blk_frozen BK6.out 1
                     have hfz82_2:=blk_frozen BK6.out 2
                     have hfz82_3:=blk_frozen BK6.out 3
                     have hfz82_4:=blk_frozen BK6.out 4
                     have hfz82_5:=blk_frozen BK6.out 5
                     have hfz82_6:=blk_frozen BK6.out 6
                     have hfz82_7:=blk_frozen BK6.out 7
                     have hfz82_8:=blk_frozen BK6.out 8
                     have hfz82_9:=blk_frozen BK6.out 9
                     go_wp2_with (first|((with_reducible refine gate_store (t:=3) (p:=89) rfl ?_);refine store_event (t:=3) (p:=89) (v:=?vo_w83) (w1:=(wc.setCell ⟨gb6,8,none⟩ (.int .i64 (wrap64 (((rd_T56 l0_2 t4).f7)+a3))))) ?hg ?ho ?hn ?hr ?_;(case ho=>rfl);(case hg=>rfl);(case hn=>rfl);(case hr=>first|(go_simp;done)|(go_simp;rfl));intro w83 hw;have n0_:Aside0 (Kd.R k56 56 w83 w0.heap.size (fun k_=>((P0_2_ k_∨P0_3_ k_)∨w.heap.size≤k_)∧k_≠gb6) (.slice (some ad5) l0_2.length co7) l0_2):=⟨(by rw [hw];exact (by (with_reducible repeat (first|apply Kd.R_alloc|apply Kd.R_drewN|apply Kd.R_drew));exact Kd.R_mono (Kd.R_far (p:=⟨gb6,8,none⟩) (Kd.R_mono HO_2002.out (fun k_ hk=>(⟨hk,hk.2⟩:_∧k_≠gb6))) (fun _ hk=>hk.2) (.int .i64 (wrap64 (((rd_T56 l0_2 t4).f7)+a3)))) (fun _ hk=>⟨hk.1.1,hk.1.2⟩)))⟩;have n1_:Aside0 (Kd.R (Kd.int .i64) 3 w83 w0.heap.size (fun k_=>((P0_2_ k_∨P0_3_ k_)∨w.heap.size≤k_)) (.slice Ao8 l0_3.length co8) l0_3):=⟨(by rw [hw];exact (by (with_reducible repeat (first|apply Kd.R_alloc|apply Kd.R_drewN|apply Kd.R_drew));exact Kd.R_mono (Kd.R_far (p:=⟨gb6,8,none⟩) (Kd.R_types HO_2003.out BK6.out (by decide)) (fun _ hk=>hk.2) (.int .i64 (wrap64 (((rd_T56 l0_2 t4).f7)+a3)))) (fun _ hk=>hk.1)))⟩;have n2_:Aside0 (w83.heap[gb1]?=some (.cells #[.int .i64 a0_0,.int .i64 a0_1,.slice (some ad5) l0_2.length co7,.slice Ao8 l0_3.length co8] 45 (0,0))):=⟨(by rw [hw];exact (by (with_reducible repeat (first|refine blk_drewN ?_ _|refine blk_drew ?_|refine blk_alloc ?_ _));refine blk_far ?_ NB1_6.out _;(with_reducible repeat (first|refine blk_drewN ?_ _|refine blk_drew ?_|refine blk_alloc ?_ _));exact BK1.out))⟩;have n3_:Aside0 (w83.heap[gb2]?=some (.cells #[.int .i64 0,.int .i64 0,.slice none 0 0,.slice none 0 0] 45 (0,0))):=⟨(by rw [hw];exact (by (with_reducible repeat (first|refine blk_drewN ?_ _|refine blk_drew ?_|refine blk_alloc ?_ _));refine blk_far ?_ NB2_6.out _;(with_reducible repeat (first|refine blk_drewN ?_ _|refine blk_drew ?_|refine blk_alloc ?_ _));exact BK2.out))⟩;have n4_:Aside0 (w83.heap[gb6]?=some (.cells #[.int .i64 ((rd_T56 l0_2 t4).f0),.int .i64 ((rd_T56 l0_2 t4).f1.f0),.int .i64 ((rd_T56 l0_2 t4).f1.f1),.string x7003_56,.bool x7004_61,.bool x7005_66,.bool x7006_71,.int .i64 x7007_51,.int .i64 (wrap64 (((rd_T56 l0_2 t4).f7)+a3)),.int .i64 ((rd_T56 l0_2 t4).f8)] 56 (0,0))):=⟨(by rw [hw];exact (by (with_reducible repeat (first|refine blk_drewN ?_ _|refine blk_drew ?_|refine blk_alloc ?_ _));refine blk_put (cs:=#[.int .i64 ((rd_T56 l0_2 t4).f0),.int .i64 ((rd_T56 l0_2 t4).f1.f0),.int .i64 ((rd_T56 l0_2 t4).f1.f1),.string x7003_56,.bool x7004_61,.bool x7005_66,.bool x7006_71,.int .i64 x7007_51,.int .i64 ((rd_T56 l0_2 t4).f7),.int .i64 ((rd_T56 l0_2 t4).f8)]) ?_ 8 _ rfl;(with_reducible repeat (first|refine blk_drewN ?_ _|refine blk_drew ?_|refine blk_alloc ?_ _));exact BK6.out))⟩;have n5_:Aside0 (Kept w w83 (fun k_=>P0_2_ k_∨P0_3_ k_)):=⟨(by rw [hw];exact (by repeat (first|(with_reducible first|exact HK.out|apply Kept.alloc|apply Kept.drewN|apply Kept.drew|refine Kept.setCell ?_ (.inr GW1.out) _|refine Kept.setCell ?_ (.inr GW2.out) _|refine Kept.setCell ?_ (.inr GW6.out) _)|exact HK.out)))⟩;have n6_:Aside0 (Below w0.heap.size w0 w83):=⟨(by rw [hw];exact (by repeat (first|(with_reducible first|exact HB.out|apply below_alloc|apply pw_below_drewN|apply below_drew1|refine below_set ?_ GE1.out|refine below_set ?_ GE2.out|refine below_set ?_ GE6.out)|exact HB.out)))⟩;clear hw;clear HO_2002;clear HO_2003;clear BK1;clear BK2;clear BK6;clear HK;clear HB;have HO_2002:=n0_;have HO_2003:=n1_;have BK1:=n2_;have BK2:=n3_;have BK6:=n4_;have HK:=n5_;have HB:=n6_;clear n0_ n1_ n2_ n3_ n4_ n5_ n6_;have hcz84_0:w83.cell? ⟨gb6,0,none⟩=some (.int .i64 ((rd_T56 l0_2 t4).f0)):=(blk_cell BK6.out 0).trans rfl;have hcz84_1:w83.cell? ⟨gb6,1,none⟩=some (.int .i64 ((rd_T56 l0_2 t4).f1.f0)):=(blk_cell BK6.out 1).trans rfl;have hcz84_2:w83.cell? ⟨gb6,2,none⟩=some (.int .i64 ((rd_T56 l0_2 t4).f1.f1)):=(blk_cell BK6.out 2).trans rfl;have hcz84_3:w83.cell? ⟨gb6,3,none⟩=some (.string x7003_56):=(blk_cell BK6.out 3).trans rfl;have hcz84_4:w83.cell? ⟨gb6,4,none⟩=some (.bool x7004_61):=(blk_cell BK6.out 4).trans rfl;have hcz84_5:w83.cell? ⟨gb6,5,none⟩=some (.bool x7005_66):=(blk_cell BK6.out 5).trans rfl;have hcz84_6:w83.cell? ⟨gb6,6,none⟩=some (.bool x7006_71):=(blk_cell BK6.out 6).trans rfl;have hcz84_7:w83.cell? ⟨gb6,7,none⟩=some (.int .i64 x7007_51):=(blk_cell BK6.out 7).trans rfl;have hcz84_8:w83.cell? ⟨gb6,8,none⟩=some (.int .i64 (wrap64 (((rd_T56 l0_2 t4).f7)+a3))):=(blk_cell BK6.out 8).trans rfl;have hcz84_9:w83.cell? ⟨gb6,9,none⟩=some (.int .i64 ((rd_T56 l0_2 t4).f8)):=(blk_cell BK6.out 9).trans rfl;have hfz84_0:=blk_frozen BK6.out 0;have hfz84_1:=blk_frozen BK6.out 1;have hfz84_2:=blk_frozen BK6.out 2;have hfz84_3:=blk_frozen BK6.out 3;have hfz84_4:=blk_frozen BK6.out 4;have hfz84_5:=blk_frozen BK6.out 5;have hfz84_6:=blk_frozen BK6.out 6;have hfz84_7:=blk_frozen BK6.out 7;have hfz84_8:=blk_frozen BK6.out 8;have hfz84_9:=blk_frozen BK6.out 9)|((with_reducible refine gate_store (t:=3) (p:=93) rfl ?_);refine store_event (t:=3) (p:=93) (v:=?vo_w85) (w1:=(w83.setCell ⟨gb6,8,none⟩ (.int .i64 1099511627776))) ?hg ?ho ?hn ?hr ?_;(case ho=>rfl);(case hg=>rfl);(case hn=>rfl);(case hr=>first|(go_simp;done)|(go_simp;rfl));intro w85 hw;have n0_:Aside0 (Kd.R k56 56 w85 w0.heap.size (fun k_=>((P0_2_ k_∨P0_3_ k_)∨w.heap.size≤k_)∧k_≠gb6) (.slice (some ad5) l0_2.length co7) l0_2):=⟨(by rw [hw];exact (by (with_reducible repeat (first|apply Kd.R_alloc|apply Kd.R_drewN|apply Kd.R_drew));exact Kd.R_mono (Kd.R_far (p:=⟨gb6,8,none⟩) (Kd.R_mono HO_2002.out (fun k_ hk=>(⟨hk,hk.2⟩:_∧k_≠gb6))) (fun _ hk=>hk.2) (.int .i64 1099511627776)) (fun _ hk=>⟨hk.1.1,hk.1.2⟩)))⟩;have n1_:Aside0 (Kd.R (Kd.int .i64) 3 w85 w0.heap.size (fun k_=>((P0_2_ k_∨P0_3_ k_)∨w.heap.size≤k_)) (.slice Ao8 l0_3.length co8) l0_3):=⟨(by rw [hw];exact (by (with_reducible repeat (first|apply Kd.R_alloc|apply Kd.R_drewN|apply Kd.R_drew));exact Kd.R_mono (Kd.R_far (p:=⟨gb6,8,none⟩) (Kd.R_types HO_2003.out BK6.out (by decide)) (fun _ hk=>hk.2) (.int .i64 1099511627776)) (fun _ hk=>hk.1)))⟩;have n2_:Aside0 (w85.heap[gb1]?=some (.cells #[.int .i64 a0_0,.int .i64 a0_1,.slice (some ad5) l0_2.length co7,.slice Ao8 l0_3.length co8] 45 (0,0))):=⟨(by rw [hw];exact (by (with_reducible repeat (first|refine blk_drewN ?_ _|refine blk_drew ?_|refine blk_alloc ?_ _));refine blk_far ?_ NB1_6.out _;(with_reducible repeat (first|refine blk_drewN ?_ _|refine blk_drew ?_|refine blk_alloc ?_ _));exact BK1.out))⟩;have n3_:Aside0 (w85.heap[gb2]?=some (.cells #[.int .i64 0,.int .i64 0,.slice none 0 0,.slice none 0 0] 45 (0,0))):=⟨(by rw [hw];exact (by (with_reducible repeat (first|refine blk_drewN ?_ _|refine blk_drew ?_|refine blk_alloc ?_ _));refine blk_far ?_ NB2_6.out _;(with_reducible repeat (first|refine blk_drewN ?_ _|refine blk_drew ?_|refine blk_alloc ?_ _));exact BK2.out))⟩;have n4_:Aside0 (w85.heap[gb6]?=some (.cells #[.int .i64 ((rd_T56 l0_2 t4).f0),.int .i64 ((rd_T56 l0_2 t4).f1.f0),.int .i64 ((rd_T56 l0_2 t4).f1.f1),.string x7003_56,.bool x7004_61,.bool x7005_66,.bool x7006_71,.int .i64 x7007_51,.int .i64 1099511627776,.int .i64 ((rd_T56 l0_2 t4).f8)] 56 (0,0))):=⟨(by rw [hw];exact (by (with_reducible repeat (first|refine blk_drewN ?_ _|refine blk_drew ?_|refine blk_alloc ?_ _));refine blk_put (cs:=#[.int .i64 ((rd_T56 l0_2 t4).f0),.int .i64 ((rd_T56 l0_2 t4).f1.f0),.int .i64 ((rd_T56 l0_2 t4).f1.f1),.string x7003_56,.bool x7004_61,.bool x7005_66,.bool x7006_71,.int .i64 x7007_51,.int .i64 (wrap64 (((rd_T56 l0_2 t4).f7)+a3)),.int .i64 ((rd_T56 l0_2 t4).f8)]) ?_ 8 _ rfl;(with_reducible repeat (first|refine blk_drewN ?_ _|refine blk_drew ?_|refine blk_alloc ?_ _));exact BK6.out))⟩;have n5_:Aside0 (Kept w w85 (fun k_=>P0_2_ k_∨P0_3_ k_)):=⟨(by rw [hw];exact (by repeat (first|(with_reducible first|exact HK.out|apply Kept.alloc|apply Kept.drewN|apply Kept.drew|refine Kept.setCell ?_ (.inr GW1.out) _|refine Kept.setCell ?_ (.inr GW2.out) _|refine Kept.setCell ?_ (.inr GW6.out) _)|exact HK.out)))⟩;have n6_:Aside0 (Below w0.heap.size w0 w85):=⟨(by rw [hw];exact (by repeat (first|(with_reducible first|exact HB.out|apply below_alloc|apply pw_below_drewN|apply below_drew1|refine below_set ?_ GE1.out|refine below_set ?_ GE2.out|refine below_set ?_ GE6.out)|exact HB.out)))⟩;clear hw;clear HO_2002;clear HO_2003;clear BK1;clear BK2;clear BK6;clear HK;clear HB;have HO_2002:=n0_;have HO_2003:=n1_;have BK1:=n2_;have BK2:=n3_;have BK6:=n4_;have HK:=n5_;have HB:=n6_;clear n0_ n1_ n2_ n3_ n4_ n5_ n6_;have hnb86:=NB1_2.out;have hnc86:=NB2_1.out;have hcz87_0:w85.cell? ⟨gb1,0,none⟩=some (.int .i64 a0_0):=(blk_cell BK1.out 0).trans rfl;have hcz87_1:w85.cell? ⟨gb1,1,none⟩=some (.int .i64 a0_1):=(blk_cell BK1.out 1).trans rfl;have hcz87_2:w85.cell? ⟨gb1,2,none⟩=some (.slice (some ad5) l0_2.length co7):=(blk_cell BK1.out 2).trans rfl;have hcz87_3:w85.cell? ⟨gb1,3,none⟩=some (.slice Ao8 l0_3.length co8):=(blk_cell BK1.out 3).trans rfl;have hfz87_0:=blk_frozen BK1.out 0;have hfz87_1:=blk_frozen BK1.out 1;have hfz87_2:=blk_frozen BK1.out 2;have hfz87_3:=blk_frozen BK1.out 3;have hcz88_0:w85.cell? ⟨gb6,0,none⟩=some (.int .i64 ((rd_T56 l0_2 t4).f0)):=(blk_cell BK6.out 0).trans rfl;have hcz88_1:w85.cell? ⟨gb6,1,none⟩=some (.int .i64 ((rd_T56 l0_2 t4).f1.f0)):=(blk_cell BK6.out 1).trans rfl;have hcz88_2:w85.cell? ⟨gb6,2,none⟩=some (.int .i64 ((rd_T56 l0_2 t4).f1.f1)):=(blk_cell BK6.out 2).trans rfl;have hcz88_3:w85.cell? ⟨gb6,3,none⟩=some (.string x7003_56):=(blk_cell BK6.out 3).trans rfl;have hcz88_4:w85.cell? ⟨gb6,4,none⟩=some (.bool x7004_61):=(blk_cell BK6.out 4).trans rfl;have hcz88_5:w85.cell? ⟨gb6,5,none⟩=some (.bool x7005_66):=(blk_cell BK6.out 5).trans rfl;have hcz88_6:w85.cell? ⟨gb6,6,none⟩=some (.bool x7006_71):=(blk_cell BK6.out 6).trans rfl;have hcz88_7:w85.cell? ⟨gb6,7,none⟩=some (.int .i64 x7007_51):=(blk_cell BK6.out 7).trans rfl;have hcz88_8:w85.cell? ⟨gb6,8,none⟩=some (.int .i64 1099511627776):=(blk_cell BK6.out 8).trans rfl;have hcz88_9:w85.cell? ⟨gb6,9,none⟩=some (.int .i64 ((rd_T56 l0_2 t4).f8)):=(blk_cell BK6.out 9).trans rfl;have hfz88_0:=blk_frozen BK6.out 0;have hfz88_1:=blk_frozen BK6.out 1;have hfz88_2:=blk_frozen BK6.out 2;have hfz88_3:=blk_frozen BK6.out 3;have hfz88_4:=blk_frozen BK6.out 4;have hfz88_5:=blk_frozen BK6.out 5;have hfz88_6:=blk_frozen BK6.out 6;have hfz88_7:=blk_frozen BK6.out 7;have hfz88_8:=blk_frozen BK6.out 8;have hfz88_9:=blk_frozen BK6.out 9)|((with_reducible refine gate_callee (f:=77) rfl ?_);refine goesL_ (some 96) rfl rfl Try.func77 (by kernel_rfl) rfl #[.agg #[.int .i64 a0_0,.int .i64 a0_1,.slice (some ad5) l0_2.length co7,.slice Ao8 l0_3.length co8],.agg #[.int .i64 ((rd_T56 l0_2 t4).f0),.int .i64 ((rd_T56 l0_2 t4).f1.f0),.int .i64 ((rd_T56 l0_2 t4).f1.f1),.string x7003_56,.bool x7004_61,.bool x7005_66,.bool x7006_71,.int .i64 x7007_51,.int .i64 1099511627776,.int .i64 ((rd_T56 l0_2 t4).f8)]] rfl (by (try simp only [List.map_toArray,List.map_cons,List.map_nil]);first|done|rfl|(simp only [List.length_drop,List.length_take];rfl)) ?_;(with_reducible refine (mosaicref18_Table_with.calls kj71 a0_0 a0_1 _ _ l0_2 (fun k_=>some k_=(.slice Ao8 l0_3.length co8:Value).ownBlock) (.slice Ao8 l0_3.length co8) l0_3 ((rd_T56 l0_2 t4).f0) ((rd_T56 l0_2 t4).f1.f0) ((rd_T56 l0_2 t4).f1.f1) x7003_56 x7004_61 x7005_66 x7006_71 x7007_51 1099511627776 ((rd_T56 l0_2 t4).f8) t7 t8 t9 t12 w0 _ ?side1 ?side2 ?side3 ?side4 A79.out).mono ?_);(case side1=>repeat (first|(with_reducible first|exact HB.out|apply below_alloc|apply pw_below_drewN|apply below_drew1|refine below_set ?_ GE1.out|refine below_set ?_ GE2.out|refine below_set ?_ GE6.out)|exact HB.out));(case side2=>exact Kd.C_kept_own ((Kd.R_apart' HO_2002.out (Kd.R_typed HO_2003.out) (by decide))) (fun k_ hk_ hs_=>(hk_.2) hs_));(case side3=>exact (Kd.R_reads' HO_2002.out).2.1);(case side4=>exact Kd.R_tight rfl HO_2003.out);rintro e w89 ⟨v10,v13,rfl,ho0,ho1,hb,hkp⟩;refine ⟨_,rfl,?_⟩;have n0_:=Aside0.mk (Kd.R_mono (ok':=fun k_=>((P0_2_ k_∨P0_3_ k_)∨w.heap.size≤k_)∧k_≠gb6∧some k_≠(v10:Value).ownBlock) (Kd.R_keptB ((Kd.R_apart' HO_2002.out (Kd.R_typed HO_2003.out) (by decide))) hkp (fun k_ hk_ hs_=>(hk_.2) hs_)) (fun k_ hk_=>⟨hk_.1.1.1,hk_.1.1.2,fun e_=>Or.elim (ho0.1 k_ e_.symm) (fun hs_=>hk_.2.1 hs_) (fun hn_=>Nat.not_le.2 hk_.2.2 hn_)⟩));have n1_:=Aside0.mk (blk_kept (by (with_reducible repeat (first|refine blk_drewN ?_ _|refine blk_drew ?_|refine blk_alloc ?_ _));exact BK1.out) hkp (fun hs_=>(fun e_=>(Kd.R_ne HO_2003.out BK1.out (by decide)) e_) hs_));have n2_:=Aside0.mk (blk_kept (by (with_reducible repeat (first|refine blk_drewN ?_ _|refine blk_drew ?_|refine blk_alloc ?_ _));exact BK2.out) hkp (fun hs_=>(fun e_=>(Kd.R_ne HO_2003.out BK2.out (by decide)) e_) hs_));have n3_:=Aside0.mk (blk_kept (by (with_reducible repeat (first|refine blk_drewN ?_ _|refine blk_drew ?_|refine blk_alloc ?_ _));exact BK6.out) hkp (fun hs_=>(fun e_=>(Kd.R_ne HO_2003.out BK6.out (by decide)) e_) hs_));have n4_:=Aside0.mk (Kd.R_mono (ok':=fun k_=>((P0_2_ k_∨P0_3_ k_)∨w.heap.size≤k_)∧some k_≠(.slice (some ad5) l0_2.length co7:Value).ownBlock∧k_≠gb6) ho0 (fun k_ hk_=>⟨Or.elim hk_ (fun hs_=>(HO_2003.out.1 k_ (hs_).symm)) (fun hn_=>(.inr (Nat.le_trans (by first|exact HK.out.1|exact (show Kept w _ (fun k_=>P0_2_ k_∨P0_3_ k_) from by repeat (first|(with_reducible first|exact HK.out|apply Kept.alloc|apply Kept.drewN|apply Kept.drew|refine Kept.setCell ?_ (.inr GW1.out) _|refine Kept.setCell ?_ (.inr GW2.out) _|refine Kept.setCell ?_ (.inr GW6.out) _)|exact HK.out)).1) hn_))),Or.elim hk_ (fun hs_=>fun e_=>((((Kd.R_apart' HO_2002.out (Kd.R_typed HO_2003.out) (by decide))).1 k_ e_.symm).2) hs_) (fun hn_=>(Kd.fresh' (Kd.R_lt (by (with_reducible repeat (first|apply Kd.R_alloc|apply Kd.R_drewN|apply Kd.R_drew));exact HO_2002.out)) k_ hn_)),Or.elim hk_ (fun hs_=>fun e_=>(Kd.R_ne HO_2003.out BK6.out (by decide)) (by rw [← e_];exact hs_)) (fun hn_=>(Kd.freshB (g:=gb6) (o:=.cells #[.int .i64 ((rd_T56 l0_2 t4).f0),.int .i64 ((rd_T56 l0_2 t4).f1.f0),.int .i64 ((rd_T56 l0_2 t4).f1.f1),.string x7003_56,.bool x7004_61,.bool x7005_66,.bool x7006_71,.int .i64 x7007_51,.int .i64 1099511627776,.int .i64 ((rd_T56 l0_2 t4).f8)] 56 (0,0)) (by (with_reducible repeat (first|refine blk_drewN ?_ _|refine blk_drew ?_|refine blk_alloc ?_ _));exact BK6.out) k_ hn_))⟩));have n5_:=Aside0.mk (Kd.R_mono (ok':=fun k_=>((P0_2_ k_∨P0_3_ k_)∨w.heap.size≤k_)) ho1 (fun k_ hk_=>Or.elim hk_ (fun hs_=>(HO_2003.out.1 k_ (hs_).symm)) (fun hn_=>(.inr (Nat.le_trans (by first|exact HK.out.1|exact (show Kept w _ (fun k_=>P0_2_ k_∨P0_3_ k_) from by repeat (first|(with_reducible first|exact HK.out|apply Kept.alloc|apply Kept.drewN|apply Kept.drew|refine Kept.setCell ?_ (.inr GW1.out) _|refine Kept.setCell ?_ (.inr GW2.out) _|refine Kept.setCell ?_ (.inr GW6.out) _)|exact HK.out)).1) hn_)))));have n6_:=Aside0.mk (Kept.then_ (S:=(fun k_=>P0_2_ k_∨P0_3_ k_)) (by repeat (first|(with_reducible first|exact HK.out|apply Kept.alloc|apply Kept.drewN|apply Kept.drew|refine Kept.setCell ?_ (.inr GW1.out) _|refine Kept.setCell ?_ (.inr GW2.out) _|refine Kept.setCell ?_ (.inr GW6.out) _)|exact HK.out)) hkp (fun k_ hs_=>(fun e_=>(HO_2003.out.1 k_ e_.symm)) hs_));have n7_:=Aside0.mk (hb);clear HO_2002;clear BK1;clear BK2;clear BK6;clear HK;clear HB;clear HO_2003;have HO_2002:=n0_;have BK1:=n1_;have BK2:=n2_;have BK6:=n3_;have HO11:=n4_;have HO14:=n5_;have HK:=n6_;have HB:=n7_;clear n0_ n1_ n2_ n3_ n4_ n5_ n6_ n7_;(try clear hb);(try clear hkp);(try clear ho0);(try clear ho1);have hcz90_0:w89.cell? ⟨gb2,0,none⟩=some (.int .i64 0):=(blk_cell BK2.out 0).trans rfl;have hcz90_1:w89.cell? ⟨gb2,1,none⟩=some (.int .i64 0):=(blk_cell BK2.out 1).trans rfl;have hcz90_2:w89.cell? ⟨gb2,2,none⟩=some (.slice none 0 0):=(blk_cell BK2.out 2).trans rfl;have hcz90_3:w89.cell? ⟨gb2,3,none⟩=some (.slice none 0 0):=(blk_cell BK2.out 3).trans rfl;have hfz90_0:=blk_frozen BK2.out 0;have hfz90_1:=blk_frozen BK2.out 1;have hfz90_2:=blk_frozen BK2.out 2;have hfz90_3:=blk_frozen BK2.out 3;obtain ⟨Ao91,co91,eo91⟩:=Kd.R_slice HO11.out;subst eo91;obtain ⟨Ao92,co92,eo92⟩:=Kd.R_slice HO14.out;subst eo92))
                     refine bodyPost_ret (results_ct rfl _ _ gb2 45 #[.int .i64 t7,.int .i64 t8,.slice Ao91 t9.length co91,.slice Ao92 t12.length co92] (0,0) _ rfl (by (with_reducible repeat (first|refine blk_drewN ?_ _|refine blk_drew ?_|refine blk_alloc ?_ _));refine blk_put (cs:=#[.int .i64 t7,.int .i64 t8,.slice Ao91 t9.length co91,.slice none 0 0]) ?_ 3 _ rfl;(with_reducible repeat (first|refine blk_drewN ?_ _|refine blk_drew ?_|refine blk_alloc ?_ _));refine blk_put (cs:=#[.int .i64 t7,.int .i64 t8,.slice none 0 0,.slice none 0 0]) ?_ 2 _ rfl;(with_reducible repeat (first|refine blk_drewN ?_ _|refine blk_drew ?_|refine blk_alloc ?_ _));refine blk_put (cs:=#[.int .i64 t7,.int .i64 0,.slice none 0 0,.slice none 0 0]) ?_ 1 _ rfl;(with_reducible repeat (first|refine blk_drewN ?_ _|refine blk_drew ?_|refine blk_alloc ?_ _));refine blk_put (cs:=#[.int .i64 0,.int .i64 0,.slice none 0 0,.slice none 0 0]) ?_ 0 _ rfl;(with_reducible repeat (first|refine blk_drewN ?_ _|refine blk_drew ?_|refine blk_alloc ?_ _));exact BK2.out) Try.underlying45 rfl (by kernel_rfl)) rfl ?_
                     exact ⟨_,_,by first|rfl|(simp [errW_none,errW_some] <;> rfl)|(simp [*,errW_none,errW_some] <;> rfl),by (with_reducible repeat (first|apply Kd.R_alloc|apply Kd.R_drewN|apply Kd.R_drew));exact Kd.R_mono (Kd.R_far (p:=⟨gb2,3,none⟩) (Kd.R_far (p:=⟨gb2,2,none⟩) (Kd.R_far (p:=⟨gb2,1,none⟩) (Kd.R_far (p:=⟨gb2,0,none⟩) (Kd.R_types HO11.out BK2.out (by decide)) (fun _ hk=>hk.2) (.int .i64 t7)) (fun _ hk=>hk.2) (.int .i64 t8)) (fun _ hk=>hk.2) (.slice Ao91 t9.length co91)) (fun _ hk=>hk.2) (.slice Ao92 t12.length co92)) (fun _ hk=>hk.1.1),by (with_reducible repeat (first|apply Kd.R_alloc|apply Kd.R_drewN|apply Kd.R_drew));exact Kd.R_mono (Kd.R_far (p:=⟨gb2,3,none⟩) (Kd.R_far (p:=⟨gb2,2,none⟩) (Kd.R_far (p:=⟨gb2,1,none⟩) (Kd.R_far (p:=⟨gb2,0,none⟩) (Kd.R_types HO14.out BK2.out (by decide)) (fun _ hk=>hk.2) (.int .i64 t7)) (fun _ hk=>hk.2) (.int .i64 t8)) (fun _ hk=>hk.2) (.slice Ao91 t9.length co91)) (fun _ hk=>hk.2) (.slice Ao92 t12.length co92)) (fun _ hk=>hk.1),by repeat (first|(with_reducible first|exact HB.out|apply below_alloc|apply pw_below_drewN|apply below_drew1|refine below_set ?_ GE1.out|refine below_set ?_ GE2.out|refine below_set ?_ GE6.out)|exact HB.out),by repeat (first|(with_reducible first|exact HK.out|apply Kept.alloc|apply Kept.drewN|apply Kept.drew|refine Kept.setCell ?_ (.inr GW1.out) _|refine Kept.setCell ?_ (.inr GW2.out) _|refine Kept.setCell ?_ (.inr GW6.out) _)|exact HK.out)⟩
                    ·
                     rw [if_neg c78] at H
                     have c78b0:decide (1099511627776 < (wrap64 (((rd_T56 l0_2 t4).f7)+a3)))=false:=decide_eq_false c78
                     clear c78
                     replace H:=Option.bind_eq_some_iff.mp H
                     obtain ⟨⟨t15,t16,t17,t20⟩,A930,H⟩:=H
                     replace H:(some (t15,t16,t17,t20,0))=some (r1,r2,r3,r4,r5):=H
                     have A93:=Aside0.mk A930
                     clear A930
                     simp only [Option.some.injEq,Prod.mk.injEq] at H
                     obtain ⟨rfl,rfl,rfl,rfl,rfl⟩:=H
                     have hnb94:=NB6_1.out
                     have hnc94:=NB1_6.out
                     have hnb95:=NB6_2.out
                     have hnc95:=NB2_6.out
                     have hcz96_0:wc.cell? ⟨gb6,0,none⟩=some (.int .i64 ((rd_T56 l0_2 t4).f0)):=(blk_cell BK6.out 0).trans rfl
                     have hcz96_1:wc.cell? ⟨gb6,1,none⟩=some (.int .i64 ((rd_T56 l0_2 t4).f1.f0)):=(blk_cell BK6.out 1).trans rfl
                     have hcz96_2:wc.cell? ⟨gb6,2,none⟩=some (.int .i64 ((rd_T56 l0_2 t4).f1.f1)):=(blk_cell BK6.out 2).trans rfl
                     have hcz96_3:wc.cell? ⟨gb6,3,none⟩=some (.string x7003_56):=(blk_cell BK6.out 3).trans rfl
                     have hcz96_4:wc.cell? ⟨gb6,4,none⟩=some (.bool x7004_61):=(blk_cell BK6.out 4).trans rfl
                     have hcz96_5:wc.cell? ⟨gb6,5,none⟩=some (.bool x7005_66):=(blk_cell BK6.out 5).trans rfl
                     have hcz96_6:wc.cell? ⟨gb6,6,none⟩=some (.bool x7006_71):=(blk_cell BK6.out 6).trans rfl
                     have hcz96_7:wc.cell? ⟨gb6,7,none⟩=some (.int .i64 x7007_51):=(blk_cell BK6.out 7).trans rfl
                     have hcz96_8:wc.cell? ⟨gb6,8,none⟩=some (.int .i64 ((rd_T56 l0_2 t4).f7)):=(blk_cell BK6.out 8).trans rfl
                     have hcz96_9:wc.cell? ⟨gb6,9,none⟩=some (.int .i64 ((rd_T56 l0_2 t4).f8)):=(blk_cell BK6.out 9).trans rfl
                     have hfz96_0:=blk_frozen BK6.out 0
                     have hfz96_1:=blk_frozen BK6.out 1
                     have hfz96_2:=blk_frozen BK6.out 2
                     have hfz96_3:=blk_frozen BK6.out 3
                     have hfz96_4:=blk_frozen BK6.out 4
                     have hfz96_5:=blk_frozen BK6.out 5
                     have hfz96_6:=blk_frozen BK6.out 6
                     have hfz96_7:=blk_frozen BK6.out 7
                     have hfz96_8:=blk_frozen BK6.out 8
                     have hfz96_9:=blk_frozen BK6.out 9
                     go_wp2_with (first|((with_reducible refine gate_store (t:=3) (p:=89) rfl ?_);refine store_event (t:=3) (p:=89) (v:=?vo_w97) (w1:=(wc.setCell ⟨gb6,8,none⟩ (.int .i64 (wrap64 (((rd_T56 l0_2 t4).f7)+a3))))) ?hg ?ho ?hn ?hr ?_;(case ho=>rfl);(case hg=>rfl);(case hn=>rfl);(case hr=>first|(go_simp;done)|(go_simp;rfl));intro w97 hw;have n0_:Aside0 (Kd.R k56 56 w97 w0.heap.size (fun k_=>((P0_2_ k_∨P0_3_ k_)∨w.heap.size≤k_)∧k_≠gb6) (.slice (some ad5) l0_2.length co7) l0_2):=⟨(by rw [hw];exact (by (with_reducible repeat (first|apply Kd.R_alloc|apply Kd.R_drewN|apply Kd.R_drew));exact Kd.R_mono (Kd.R_far (p:=⟨gb6,8,none⟩) (Kd.R_mono HO_2002.out (fun k_ hk=>(⟨hk,hk.2⟩:_∧k_≠gb6))) (fun _ hk=>hk.2) (.int .i64 (wrap64 (((rd_T56 l0_2 t4).f7)+a3)))) (fun _ hk=>⟨hk.1.1,hk.1.2⟩)))⟩;have n1_:Aside0 (Kd.R (Kd.int .i64) 3 w97 w0.heap.size (fun k_=>((P0_2_ k_∨P0_3_ k_)∨w.heap.size≤k_)) (.slice Ao8 l0_3.length co8) l0_3):=⟨(by rw [hw];exact (by (with_reducible repeat (first|apply Kd.R_alloc|apply Kd.R_drewN|apply Kd.R_drew));exact Kd.R_mono (Kd.R_far (p:=⟨gb6,8,none⟩) (Kd.R_types HO_2003.out BK6.out (by decide)) (fun _ hk=>hk.2) (.int .i64 (wrap64 (((rd_T56 l0_2 t4).f7)+a3)))) (fun _ hk=>hk.1)))⟩;have n2_:Aside0 (w97.heap[gb1]?=some (.cells #[.int .i64 a0_0,.int .i64 a0_1,.slice (some ad5) l0_2.length co7,.slice Ao8 l0_3.length co8] 45 (0,0))):=⟨(by rw [hw];exact (by (with_reducible repeat (first|refine blk_drewN ?_ _|refine blk_drew ?_|refine blk_alloc ?_ _));refine blk_far ?_ NB1_6.out _;(with_reducible repeat (first|refine blk_drewN ?_ _|refine blk_drew ?_|refine blk_alloc ?_ _));exact BK1.out))⟩;have n3_:Aside0 (w97.heap[gb2]?=some (.cells #[.int .i64 0,.int .i64 0,.slice none 0 0,.slice none 0 0] 45 (0,0))):=⟨(by rw [hw];exact (by (with_reducible repeat (first|refine blk_drewN ?_ _|refine blk_drew ?_|refine blk_alloc ?_ _));refine blk_far ?_ NB2_6.out _;(with_reducible repeat (first|refine blk_drewN ?_ _|refine blk_drew ?_|refine blk_alloc ?_ _));exact BK2.out))⟩;have n4_:Aside0 (w97.heap[gb6]?=some (.cells #[.int .i64 ((rd_T56 l0_2 t4).f0),.int .i64 ((rd_T56 l0_2 t4).f1.f0),.int .i64 ((rd_T56 l0_2 t4).f1.f1),.string x7003_56,.bool x7004_61,.bool x7005_66,.bool x7006_71,.int .i64 x7007_51,.int .i64 (wrap64 (((rd_T56 l0_2 t4).f7)+a3)),.int .i64 ((rd_T56 l0_2 t4).f8)] 56 (0,0))):=⟨(by rw [hw];exact (by (with_reducible repeat (first|refine blk_drewN ?_ _|refine blk_drew ?_|refine blk_alloc ?_ _));refine blk_put (cs:=#[.int .i64 ((rd_T56 l0_2 t4).f0),.int .i64 ((rd_T56 l0_2 t4).f1.f0),.int .i64 ((rd_T56 l0_2 t4).f1.f1),.string x7003_56,.bool x7004_61,.bool x7005_66,.bool x7006_71,.int .i64 x7007_51,.int .i64 ((rd_T56 l0_2 t4).f7),.int .i64 ((rd_T56 l0_2 t4).f8)]) ?_ 8 _ rfl;(with_reducible repeat (first|refine blk_drewN ?_ _|refine blk_drew ?_|refine blk_alloc ?_ _));exact BK6.out))⟩;have n5_:Aside0 (Kept w w97 (fun k_=>P0_2_ k_∨P0_3_ k_)):=⟨(by rw [hw];exact (by repeat (first|(with_reducible first|exact HK.out|apply Kept.alloc|apply Kept.drewN|apply Kept.drew|refine Kept.setCell ?_ (.inr GW1.out) _|refine Kept.setCell ?_ (.inr GW2.out) _|refine Kept.setCell ?_ (.inr GW6.out) _)|exact HK.out)))⟩;have n6_:Aside0 (Below w0.heap.size w0 w97):=⟨(by rw [hw];exact (by repeat (first|(with_reducible first|exact HB.out|apply below_alloc|apply pw_below_drewN|apply below_drew1|refine below_set ?_ GE1.out|refine below_set ?_ GE2.out|refine below_set ?_ GE6.out)|exact HB.out)))⟩;clear hw;clear HO_2002;clear HO_2003;clear BK1;clear BK2;clear BK6;clear HK;clear HB;have HO_2002:=n0_;have HO_2003:=n1_;have BK1:=n2_;have BK2:=n3_;have BK6:=n4_;have HK:=n5_;have HB:=n6_;clear n0_ n1_ n2_ n3_ n4_ n5_ n6_;have hcz98_0:w97.cell? ⟨gb6,0,none⟩=some (.int .i64 ((rd_T56 l0_2 t4).f0)):=(blk_cell BK6.out 0).trans rfl;have hcz98_1:w97.cell? ⟨gb6,1,none⟩=some (.int .i64 ((rd_T56 l0_2 t4).f1.f0)):=(blk_cell BK6.out 1).trans rfl;have hcz98_2:w97.cell? ⟨gb6,2,none⟩=some (.int .i64 ((rd_T56 l0_2 t4).f1.f1)):=(blk_cell BK6.out 2).trans rfl;have hcz98_3:w97.cell? ⟨gb6,3,none⟩=some (.string x7003_56):=(blk_cell BK6.out 3).trans rfl;have hcz98_4:w97.cell? ⟨gb6,4,none⟩=some (.bool x7004_61):=(blk_cell BK6.out 4).trans rfl;have hcz98_5:w97.cell? ⟨gb6,5,none⟩=some (.bool x7005_66):=(blk_cell BK6.out 5).trans rfl;have hcz98_6:w97.cell? ⟨gb6,6,none⟩=some (.bool x7006_71):=(blk_cell BK6.out 6).trans rfl;have hcz98_7:w97.cell? ⟨gb6,7,none⟩=some (.int .i64 x7007_51):=(blk_cell BK6.out 7).trans rfl;have hcz98_8:w97.cell? ⟨gb6,8,none⟩=some (.int .i64 (wrap64 (((rd_T56 l0_2 t4).f7)+a3))):=(blk_cell BK6.out 8).trans rfl;have hcz98_9:w97.cell? ⟨gb6,9,none⟩=some (.int .i64 ((rd_T56 l0_2 t4).f8)):=(blk_cell BK6.out 9).trans rfl;have hfz98_0:=blk_frozen BK6.out 0;have hfz98_1:=blk_frozen BK6.out 1;have hfz98_2:=blk_frozen BK6.out 2;have hfz98_3:=blk_frozen BK6.out 3;have hfz98_4:=blk_frozen BK6.out 4;have hfz98_5:=blk_frozen BK6.out 5;have hfz98_6:=blk_frozen BK6.out 6;have hfz98_7:=blk_frozen BK6.out 7;have hfz98_8:=blk_frozen BK6.out 8;have hfz98_9:=blk_frozen BK6.out 9;have hnb99:=NB1_2.out;have hnc99:=NB2_1.out;have hcz100_0:w97.cell? ⟨gb1,0,none⟩=some (.int .i64 a0_0):=(blk_cell BK1.out 0).trans rfl;have hcz100_1:w97.cell? ⟨gb1,1,none⟩=some (.int .i64 a0_1):=(blk_cell BK1.out 1).trans rfl;have hcz100_2:w97.cell? ⟨gb1,2,none⟩=some (.slice (some ad5) l0_2.length co7):=(blk_cell BK1.out 2).trans rfl;have hcz100_3:w97.cell? ⟨gb1,3,none⟩=some (.slice Ao8 l0_3.length co8):=(blk_cell BK1.out 3).trans rfl;have hfz100_0:=blk_frozen BK1.out 0;have hfz100_1:=blk_frozen BK1.out 1;have hfz100_2:=blk_frozen BK1.out 2;have hfz100_3:=blk_frozen BK1.out 3)|((with_reducible refine gate_callee (f:=77) rfl ?_);refine goesL_ (some 96) rfl rfl Try.func77 (by kernel_rfl) rfl #[.agg #[.int .i64 a0_0,.int .i64 a0_1,.slice (some ad5) l0_2.length co7,.slice Ao8 l0_3.length co8],.agg #[.int .i64 ((rd_T56 l0_2 t4).f0),.int .i64 ((rd_T56 l0_2 t4).f1.f0),.int .i64 ((rd_T56 l0_2 t4).f1.f1),.string x7003_56,.bool x7004_61,.bool x7005_66,.bool x7006_71,.int .i64 x7007_51,.int .i64 (wrap64 (((rd_T56 l0_2 t4).f7)+a3)),.int .i64 ((rd_T56 l0_2 t4).f8)]] rfl (by (try simp only [List.map_toArray,List.map_cons,List.map_nil]);first|done|rfl|(simp only [List.length_drop,List.length_take];rfl)) ?_;(with_reducible refine (mosaicref18_Table_with.calls kj71 a0_0 a0_1 _ _ l0_2 (fun k_=>some k_=(.slice Ao8 l0_3.length co8:Value).ownBlock) (.slice Ao8 l0_3.length co8) l0_3 ((rd_T56 l0_2 t4).f0) ((rd_T56 l0_2 t4).f1.f0) ((rd_T56 l0_2 t4).f1.f1) x7003_56 x7004_61 x7005_66 x7006_71 x7007_51 (wrap64 (((rd_T56 l0_2 t4).f7)+a3)) ((rd_T56 l0_2 t4).f8) t15 t16 t17 t20 w0 _ ?side1 ?side2 ?side3 ?side4 A93.out).mono ?_);(case side1=>repeat (first|(with_reducible first|exact HB.out|apply below_alloc|apply pw_below_drewN|apply below_drew1|refine below_set ?_ GE1.out|refine below_set ?_ GE2.out|refine below_set ?_ GE6.out)|exact HB.out));(case side2=>exact Kd.C_kept_own ((Kd.R_apart' HO_2002.out (Kd.R_typed HO_2003.out) (by decide))) (fun k_ hk_ hs_=>(hk_.2) hs_));(case side3=>exact (Kd.R_reads' HO_2002.out).2.1);(case side4=>exact Kd.R_tight rfl HO_2003.out);rintro e w101 ⟨v18,v21,rfl,ho0,ho1,hb,hkp⟩;refine ⟨_,rfl,?_⟩;have n0_:=Aside0.mk (Kd.R_mono (ok':=fun k_=>((P0_2_ k_∨P0_3_ k_)∨w.heap.size≤k_)∧k_≠gb6∧some k_≠(v18:Value).ownBlock) (Kd.R_keptB ((Kd.R_apart' HO_2002.out (Kd.R_typed HO_2003.out) (by decide))) hkp (fun k_ hk_ hs_=>(hk_.2) hs_)) (fun k_ hk_=>⟨hk_.1.1.1,hk_.1.1.2,fun e_=>Or.elim (ho0.1 k_ e_.symm) (fun hs_=>hk_.2.1 hs_) (fun hn_=>Nat.not_le.2 hk_.2.2 hn_)⟩));have n1_:=Aside0.mk (blk_kept (by (with_reducible repeat (first|refine blk_drewN ?_ _|refine blk_drew ?_|refine blk_alloc ?_ _));exact BK1.out) hkp (fun hs_=>(fun e_=>(Kd.R_ne HO_2003.out BK1.out (by decide)) e_) hs_));have n2_:=Aside0.mk (blk_kept (by (with_reducible repeat (first|refine blk_drewN ?_ _|refine blk_drew ?_|refine blk_alloc ?_ _));exact BK2.out) hkp (fun hs_=>(fun e_=>(Kd.R_ne HO_2003.out BK2.out (by decide)) e_) hs_));have n3_:=Aside0.mk (blk_kept (by (with_reducible repeat (first|refine blk_drewN ?_ _|refine blk_drew ?_|refine blk_alloc ?_ _));exact BK6.out) hkp (fun hs_=>(fun e_=>(Kd.R_ne HO_2003.out BK6.out (by decide)) e_) hs_));have n4_:=Aside0.mk (Kd.R_mono (ok':=fun k_=>((P0_2_ k_∨P0_3_ k_)∨w.heap.size≤k_)∧some k_≠(.slice (some ad5) l0_2.length co7:Value).ownBlock∧k_≠gb6) ho0 (fun k_ hk_=>⟨Or.elim hk_ (fun hs_=>(HO_2003.out.1 k_ (hs_).symm)) (fun hn_=>(.inr (Nat.le_trans (by first|exact HK.out.1|exact (show Kept w _ (fun k_=>P0_2_ k_∨P0_3_ k_) from by repeat (first|(with_reducible first|exact HK.out|apply Kept.alloc|apply Kept.drewN|apply Kept.drew|refine Kept.setCell ?_ (.inr GW1.out) _|refine Kept.setCell ?_ (.inr GW2.out) _|refine Kept.setCell ?_ (.inr GW6.out) _)|exact HK.out)).1) hn_))),Or.elim hk_ (fun hs_=>fun e_=>((((Kd.R_apart' HO_2002.out (Kd.R_typed HO_2003.out) (by decide))).1 k_ e_.symm).2) hs_) (fun hn_=>(Kd.fresh' (Kd.R_lt (by (with_reducible repeat (first|apply Kd.R_alloc|apply Kd.R_drewN|apply Kd.R_drew));exact HO_2002.out)) k_ hn_)),Or.elim hk_ (fun hs_=>fun e_=>(Kd.R_ne HO_2003.out BK6.out (by decide)) (by rw [← e_];exact hs_)) (fun hn_=>(Kd.freshB (g:=gb6) (o:=.cells #[.int .i64 ((rd_T56 l0_2 t4).f0),.int .i64 ((rd_T56 l0_2 t4).f1.f0),.int .i64 ((rd_T56 l0_2 t4).f1.f1),.string x7003_56,.bool x7004_61,.bool x7005_66,.bool x7006_71,.int .i64 x7007_51,.int .i64 (wrap64 (((rd_T56 l0_2 t4).f7)+a3)),.int .i64 ((rd_T56 l0_2 t4).f8)] 56 (0,0)) (by (with_reducible repeat (first|refine blk_drewN ?_ _|refine blk_drew ?_|refine blk_alloc ?_ _));exact BK6.out) k_ hn_))⟩));have n5_:=Aside0.mk (Kd.R_mono (ok':=fun k_=>((P0_2_ k_∨P0_3_ k_)∨w.heap.size≤k_)) ho1 (fun k_ hk_=>Or.elim hk_ (fun hs_=>(HO_2003.out.1 k_ (hs_).symm)) (fun hn_=>(.inr (Nat.le_trans (by first|exact HK.out.1|exact (show Kept w _ (fun k_=>P0_2_ k_∨P0_3_ k_) from by repeat (first|(with_reducible first|exact HK.out|apply Kept.alloc|apply Kept.drewN|apply Kept.drew|refine Kept.setCell ?_ (.inr GW1.out) _|refine Kept.setCell ?_ (.inr GW2.out) _|refine Kept.setCell ?_ (.inr GW6.out) _)|exact HK.out)).1) hn_)))));have n6_:=Aside0.mk (Kept.then_ (S:=(fun k_=>P0_2_ k_∨P0_3_ k_)) (by repeat (first|(with_reducible first|exact HK.out|apply Kept.alloc|apply Kept.drewN|apply Kept.drew|refine Kept.setCell ?_ (.inr GW1.out) _|refine Kept.setCell ?_ (.inr GW2.out) _|refine Kept.setCell ?_ (.inr GW6.out) _)|exact HK.out)) hkp (fun k_ hs_=>(fun e_=>(HO_2003.out.1 k_ e_.symm)) hs_));have n7_:=Aside0.mk (hb);clear HO_2002;clear BK1;clear BK2;clear BK6;clear HK;clear HB;clear HO_2003;have HO_2002:=n0_;have BK1:=n1_;have BK2:=n2_;have BK6:=n3_;have HO19:=n4_;have HO22:=n5_;have HK:=n6_;have HB:=n7_;clear n0_ n1_ n2_ n3_ n4_ n5_ n6_ n7_;(try clear hb);(try clear hkp);(try clear ho0);(try clear ho1);have hcz102_0:w101.cell? ⟨gb2,0,none⟩=some (.int .i64 0):=(blk_cell BK2.out 0).trans rfl;have hcz102_1:w101.cell? ⟨gb2,1,none⟩=some (.int .i64 0):=(blk_cell BK2.out 1).trans rfl;have hcz102_2:w101.cell? ⟨gb2,2,none⟩=some (.slice none 0 0):=(blk_cell BK2.out 2).trans rfl;have hcz102_3:w101.cell? ⟨gb2,3,none⟩=some (.slice none 0 0):=(blk_cell BK2.out 3).trans rfl;have hfz102_0:=blk_frozen BK2.out 0;have hfz102_1:=blk_frozen BK2.out 1;have hfz102_2:=blk_frozen BK2.out 2;have hfz102_3:=blk_frozen BK2.out 3;obtain ⟨Ao103,co103,eo103⟩:=Kd.R_slice HO19.out;subst eo103;obtain ⟨Ao104,co104,eo104⟩:=Kd.R_slice HO22.out;subst eo104))
                     refine bodyPost_ret (results_ct rfl _ _ gb2 45 #[.int .i64 t15,.int .i64 t16,.slice Ao103 t17.length co103,.slice Ao104 t20.length co104] (0,0) _ rfl (by (with_reducible repeat (first|refine blk_drewN ?_ _|refine blk_drew ?_|refine blk_alloc ?_ _));refine blk_put (cs:=#[.int .i64 t15,.int .i64 t16,.slice Ao103 t17.length co103,.slice none 0 0]) ?_ 3 _ rfl;(with_reducible repeat (first|refine blk_drewN ?_ _|refine blk_drew ?_|refine blk_alloc ?_ _));refine blk_put (cs:=#[.int .i64 t15,.int .i64 t16,.slice none 0 0,.slice none 0 0]) ?_ 2 _ rfl;(with_reducible repeat (first|refine blk_drewN ?_ _|refine blk_drew ?_|refine blk_alloc ?_ _));refine blk_put (cs:=#[.int .i64 t15,.int .i64 0,.slice none 0 0,.slice none 0 0]) ?_ 1 _ rfl;(with_reducible repeat (first|refine blk_drewN ?_ _|refine blk_drew ?_|refine blk_alloc ?_ _));refine blk_put (cs:=#[.int .i64 0,.int .i64 0,.slice none 0 0,.slice none 0 0]) ?_ 0 _ rfl;(with_reducible repeat (first|refine blk_drewN ?_ _|refine blk_drew ?_|refine blk_alloc ?_ _));exact BK2.out) Try.underlying45 rfl (by kernel_rfl)) rfl ?_
                     exact ⟨_,_,by first|rfl|(simp [errW_none,errW_some] <;> rfl)|(simp [*,errW_none,errW_some] <;> rfl),by (with_reducible repeat (first|apply Kd.R_alloc|apply Kd.R_drewN|apply Kd.R_drew));exact Kd.R_mono (Kd.R_far (p:=⟨gb2,3,none⟩) (Kd.R_far (p:=⟨gb2,2,none⟩) (Kd.R_far (p:=⟨gb2,1,none⟩) (Kd.R_far (p:=⟨gb2,0,none⟩) (Kd.R_types HO19.out BK2.out (by decide)) (fun _ hk=>hk.2) (.int .i64 t15)) (fun _ hk=>hk.2) (.int .i64 t16)) (fun _ hk=>hk.2) (.slice Ao103 t17.length co103)) (fun _ hk=>hk.2) (.slice Ao104 t20.length co104)) (fun _ hk=>hk.1.1),by (with_reducible repeat (first|apply Kd.R_alloc|apply Kd.R_drewN|apply Kd.R_drew));exact Kd.R_mono (Kd.R_far (p:=⟨gb2,3,none⟩) (Kd.R_far (p:=⟨gb2,2,none⟩) (Kd.R_far (p:=⟨gb2,1,none⟩) (Kd.R_far (p:=⟨gb2,0,none⟩) (Kd.R_types HO22.out BK2.out (by decide)) (fun _ hk=>hk.2) (.int .i64 t15)) (fun _ hk=>hk.2) (.int .i64 t16)) (fun _ hk=>hk.2) (.slice Ao103 t17.length co103)) (fun _ hk=>hk.2) (.slice Ao104 t20.length co104)) (fun _ hk=>hk.1),by repeat (first|(with_reducible first|exact HB.out|apply below_alloc|apply pw_below_drewN|apply below_drew1|refine below_set ?_ GE1.out|refine below_set ?_ GE2.out|refine below_set ?_ GE6.out)|exact HB.out),by repeat (first|(with_reducible first|exact HK.out|apply Kept.alloc|apply Kept.drewN|apply Kept.drew|refine Kept.setCell ?_ (.inr GW1.out) _|refine Kept.setCell ?_ (.inr GW2.out) _|refine Kept.setCell ?_ (.inr GW6.out) _)|exact HK.out)⟩
                   ·
                    rw [if_neg c77] at H
                    have c77b0:(a2 == 5)=false:=beq_eq_false_iff_ne.mpr c77
                    have c77b1:(a2 != 5)=true:=bne_iff_ne.mpr c77
                    replace H:=Option.bind_eq_some_iff.mp H
                    obtain ⟨⟨t23,t24,t25,t28⟩,A1050,H⟩:=H
                    replace H:(some (t23,t24,t25,t28,0))=some (r1,r2,r3,r4,r5):=H
                    have A105:=Aside0.mk A1050
                    clear A1050
                    simp only [Option.some.injEq,Prod.mk.injEq] at H
                    obtain ⟨rfl,rfl,rfl,rfl,rfl⟩:=H
                    have hnb106:=NB1_2.out
                    have hnc106:=NB2_1.out
                    have hnb107:=NB1_6.out
                    have hnc107:=NB6_1.out
                    have hcz108_0:wc.cell? ⟨gb1,0,none⟩=some (.int .i64 a0_0):=(blk_cell BK1.out 0).trans rfl
                    have hcz108_1:wc.cell? ⟨gb1,1,none⟩=some (.int .i64 a0_1):=(blk_cell BK1.out 1).trans rfl
                    have hcz108_2:wc.cell? ⟨gb1,2,none⟩=some (.slice (some ad5) l0_2.length co7):=(blk_cell BK1.out 2).trans rfl
                    have hcz108_3:wc.cell? ⟨gb1,3,none⟩=some (.slice Ao8 l0_3.length co8):=(blk_cell BK1.out 3).trans rfl
                    have hfz108_0:=blk_frozen BK1.out 0
                    have hfz108_1:=blk_frozen BK1.out 1
                    have hfz108_2:=blk_frozen BK1.out 2
                    have hfz108_3:=blk_frozen BK1.out 3
                    have hnb109:=NB6_2.out
                    have hnc109:=NB2_6.out
                    have hcz110_0:wc.cell? ⟨gb6,0,none⟩=some (.int .i64 ((rd_T56 l0_2 t4).f0)):=(blk_cell BK6.out 0).trans rfl
                    have hcz110_1:wc.cell? ⟨gb6,1,none⟩=some (.int .i64 ((rd_T56 l0_2 t4).f1.f0)):=(blk_cell BK6.out 1).trans rfl
                    have hcz110_2:wc.cell? ⟨gb6,2,none⟩=some (.int .i64 ((rd_T56 l0_2 t4).f1.f1)):=(blk_cell BK6.out 2).trans rfl
                    have hcz110_3:wc.cell? ⟨gb6,3,none⟩=some (.string x7003_56):=(blk_cell BK6.out 3).trans rfl
                    have hcz110_4:wc.cell? ⟨gb6,4,none⟩=some (.bool x7004_61):=(blk_cell BK6.out 4).trans rfl
                    have hcz110_5:wc.cell? ⟨gb6,5,none⟩=some (.bool x7005_66):=(blk_cell BK6.out 5).trans rfl
                    have hcz110_6:wc.cell? ⟨gb6,6,none⟩=some (.bool x7006_71):=(blk_cell BK6.out 6).trans rfl
                    have hcz110_7:wc.cell? ⟨gb6,7,none⟩=some (.int .i64 x7007_51):=(blk_cell BK6.out 7).trans rfl
                    have hcz110_8:wc.cell? ⟨gb6,8,none⟩=some (.int .i64 ((rd_T56 l0_2 t4).f7)):=(blk_cell BK6.out 8).trans rfl
                    have hcz110_9:wc.cell? ⟨gb6,9,none⟩=some (.int .i64 ((rd_T56 l0_2 t4).f8)):=(blk_cell BK6.out 9).trans rfl
                    have hfz110_0:=blk_frozen BK6.out 0
                    have hfz110_1:=blk_frozen BK6.out 1
                    have hfz110_2:=blk_frozen BK6.out 2
                    have hfz110_3:=blk_frozen BK6.out 3
                    have hfz110_4:=blk_frozen BK6.out 4
                    have hfz110_5:=blk_frozen BK6.out 5
                    have hfz110_6:=blk_frozen BK6.out 6
                    have hfz110_7:=blk_frozen BK6.out 7
                    have hfz110_8:=blk_frozen BK6.out 8
                    have hfz110_9:=blk_frozen BK6.out 9
                    go_wp2_with (first|((with_reducible refine gate_callee (f:=77) rfl ?_);refine goesL_ (some 96) rfl rfl Try.func77 (by kernel_rfl) rfl #[.agg #[.int .i64 a0_0,.int .i64 a0_1,.slice (some ad5) l0_2.length co7,.slice Ao8 l0_3.length co8],.agg #[.int .i64 ((rd_T56 l0_2 t4).f0),.int .i64 ((rd_T56 l0_2 t4).f1.f0),.int .i64 ((rd_T56 l0_2 t4).f1.f1),.string x7003_56,.bool x7004_61,.bool x7005_66,.bool x7006_71,.int .i64 x7007_51,.int .i64 ((rd_T56 l0_2 t4).f7),.int .i64 ((rd_T56 l0_2 t4).f8)]] rfl (by (try simp only [List.map_toArray,List.map_cons,List.map_nil]);first|done|rfl|(simp only [List.length_drop,List.length_take];rfl)) ?_;(with_reducible refine (mosaicref18_Table_with.calls kj71 a0_0 a0_1 _ _ l0_2 (fun k_=>some k_=(.slice Ao8 l0_3.length co8:Value).ownBlock) (.slice Ao8 l0_3.length co8) l0_3 ((rd_T56 l0_2 t4).f0) ((rd_T56 l0_2 t4).f1.f0) ((rd_T56 l0_2 t4).f1.f1) x7003_56 x7004_61 x7005_66 x7006_71 x7007_51 ((rd_T56 l0_2 t4).f7) ((rd_T56 l0_2 t4).f8) t23 t24 t25 t28 w0 _ ?side1 ?side2 ?side3 ?side4 A105.out).mono ?_);(case side1=>repeat (first|(with_reducible first|exact HB.out|apply below_alloc|apply pw_below_drewN|apply below_drew1|refine below_set ?_ GE1.out|refine below_set ?_ GE2.out|refine below_set ?_ GE6.out)|exact HB.out));(case side2=>exact Kd.C_kept_own ((Kd.R_apart' HO_2002.out (Kd.R_typed HO_2003.out) (by decide))) (fun k_ hk_ hs_=>(hk_.2) hs_));(case side3=>exact (Kd.R_reads' HO_2002.out).2.1);(case side4=>exact Kd.R_tight rfl HO_2003.out);rintro e w111 ⟨v26,v29,rfl,ho0,ho1,hb,hkp⟩;refine ⟨_,rfl,?_⟩;have n0_:=Aside0.mk (Kd.R_mono (ok':=fun k_=>((P0_2_ k_∨P0_3_ k_)∨w.heap.size≤k_)∧k_≠gb6∧some k_≠(v26:Value).ownBlock) (Kd.R_keptB ((Kd.R_apart' HO_2002.out (Kd.R_typed HO_2003.out) (by decide))) hkp (fun k_ hk_ hs_=>(hk_.2) hs_)) (fun k_ hk_=>⟨hk_.1.1.1,hk_.1.1.2,fun e_=>Or.elim (ho0.1 k_ e_.symm) (fun hs_=>hk_.2.1 hs_) (fun hn_=>Nat.not_le.2 hk_.2.2 hn_)⟩));have n1_:=Aside0.mk (blk_kept (by (with_reducible repeat (first|refine blk_drewN ?_ _|refine blk_drew ?_|refine blk_alloc ?_ _));exact BK1.out) hkp (fun hs_=>(fun e_=>(Kd.R_ne HO_2003.out BK1.out (by decide)) e_) hs_));have n2_:=Aside0.mk (blk_kept (by (with_reducible repeat (first|refine blk_drewN ?_ _|refine blk_drew ?_|refine blk_alloc ?_ _));exact BK2.out) hkp (fun hs_=>(fun e_=>(Kd.R_ne HO_2003.out BK2.out (by decide)) e_) hs_));have n3_:=Aside0.mk (blk_kept (by (with_reducible repeat (first|refine blk_drewN ?_ _|refine blk_drew ?_|refine blk_alloc ?_ _));exact BK6.out) hkp (fun hs_=>(fun e_=>(Kd.R_ne HO_2003.out BK6.out (by decide)) e_) hs_));have n4_:=Aside0.mk (Kd.R_mono (ok':=fun k_=>((P0_2_ k_∨P0_3_ k_)∨w.heap.size≤k_)∧some k_≠(.slice (some ad5) l0_2.length co7:Value).ownBlock∧k_≠gb6) ho0 (fun k_ hk_=>⟨Or.elim hk_ (fun hs_=>(HO_2003.out.1 k_ (hs_).symm)) (fun hn_=>(.inr (Nat.le_trans (by first|exact HK.out.1|exact (show Kept w _ (fun k_=>P0_2_ k_∨P0_3_ k_) from by repeat (first|(with_reducible first|exact HK.out|apply Kept.alloc|apply Kept.drewN|apply Kept.drew|refine Kept.setCell ?_ (.inr GW1.out) _|refine Kept.setCell ?_ (.inr GW2.out) _|refine Kept.setCell ?_ (.inr GW6.out) _)|exact HK.out)).1) hn_))),Or.elim hk_ (fun hs_=>fun e_=>((((Kd.R_apart' HO_2002.out (Kd.R_typed HO_2003.out) (by decide))).1 k_ e_.symm).2) hs_) (fun hn_=>(Kd.fresh' (Kd.R_lt (by (with_reducible repeat (first|apply Kd.R_alloc|apply Kd.R_drewN|apply Kd.R_drew));exact HO_2002.out)) k_ hn_)),Or.elim hk_ (fun hs_=>fun e_=>(Kd.R_ne HO_2003.out BK6.out (by decide)) (by rw [← e_];exact hs_)) (fun hn_=>(Kd.freshB (g:=gb6) (o:=.cells #[.int .i64 ((rd_T56 l0_2 t4).f0),.int .i64 ((rd_T56 l0_2 t4).f1.f0),.int .i64 ((rd_T56 l0_2 t4).f1.f1),.string x7003_56,.bool x7004_61,.bool x7005_66,.bool x7006_71,.int .i64 x7007_51,.int .i64 ((rd_T56 l0_2 t4).f7),.int .i64 ((rd_T56 l0_2 t4).f8)] 56 (0,0)) (by (with_reducible repeat (first|refine blk_drewN ?_ _|refine blk_drew ?_|refine blk_alloc ?_ _));exact BK6.out) k_ hn_))⟩));have n5_:=Aside0.mk (Kd.R_mono (ok':=fun k_=>((P0_2_ k_∨P0_3_ k_)∨w.heap.size≤k_)) ho1 (fun k_ hk_=>Or.elim hk_ (fun hs_=>(HO_2003.out.1 k_ (hs_).symm)) (fun hn_=>(.inr (Nat.le_trans (by first|exact HK.out.1|exact (show Kept w _ (fun k_=>P0_2_ k_∨P0_3_ k_) from by repeat (first|(with_reducible first|exact HK.out|apply Kept.alloc|apply Kept.drewN|apply Kept.drew|refine Kept.setCell ?_ (.inr GW1.out) _|refine Kept.setCell ?_ (.inr GW2.out) _|refine Kept.setCell ?_ (.inr GW6.out) _)|exact HK.out)).1) hn_)))));have n6_:=Aside0.mk (Kept.then_ (S:=(fun k_=>P0_2_ k_∨P0_3_ k_)) (by repeat (first|(with_reducible first|exact HK.out|apply Kept.alloc|apply Kept.drewN|apply Kept.drew|refine Kept.setCell ?_ (.inr GW1.out) _|refine Kept.setCell ?_ (.inr GW2.out) _|refine Kept.setCell ?_ (.inr GW6.out) _)|exact HK.out)) hkp (fun k_ hs_=>(fun e_=>(HO_2003.out.1 k_ e_.symm)) hs_));have n7_:=Aside0.mk (hb);clear HO_2002;clear BK1;clear BK2;clear BK6;clear HK;clear HB;clear HO_2003;have HO_2002:=n0_;have BK1:=n1_;have BK2:=n2_;have BK6:=n3_;have HO27:=n4_;have HO30:=n5_;have HK:=n6_;have HB:=n7_;clear n0_ n1_ n2_ n3_ n4_ n5_ n6_ n7_;(try clear hb);(try clear hkp);(try clear ho0);(try clear ho1);have hcz112_0:w111.cell? ⟨gb2,0,none⟩=some (.int .i64 0):=(blk_cell BK2.out 0).trans rfl;have hcz112_1:w111.cell? ⟨gb2,1,none⟩=some (.int .i64 0):=(blk_cell BK2.out 1).trans rfl;have hcz112_2:w111.cell? ⟨gb2,2,none⟩=some (.slice none 0 0):=(blk_cell BK2.out 2).trans rfl;have hcz112_3:w111.cell? ⟨gb2,3,none⟩=some (.slice none 0 0):=(blk_cell BK2.out 3).trans rfl;have hfz112_0:=blk_frozen BK2.out 0;have hfz112_1:=blk_frozen BK2.out 1;have hfz112_2:=blk_frozen BK2.out 2;have hfz112_3:=blk_frozen BK2.out 3;obtain ⟨Ao113,co113,eo113⟩:=Kd.R_slice HO27.out;subst eo113;obtain ⟨Ao114,co114,eo114⟩:=Kd.R_slice HO30.out;subst eo114))
                    refine bodyPost_ret (results_ct rfl _ _ gb2 45 #[.int .i64 t23,.int .i64 t24,.slice Ao113 t25.length co113,.slice Ao114 t28.length co114] (0,0) _ rfl (by (with_reducible repeat (first|refine blk_drewN ?_ _|refine blk_drew ?_|refine blk_alloc ?_ _));refine blk_put (cs:=#[.int .i64 t23,.int .i64 t24,.slice Ao113 t25.length co113,.slice none 0 0]) ?_ 3 _ rfl;(with_reducible repeat (first|refine blk_drewN ?_ _|refine blk_drew ?_|refine blk_alloc ?_ _));refine blk_put (cs:=#[.int .i64 t23,.int .i64 t24,.slice none 0 0,.slice none 0 0]) ?_ 2 _ rfl;(with_reducible repeat (first|refine blk_drewN ?_ _|refine blk_drew ?_|refine blk_alloc ?_ _));refine blk_put (cs:=#[.int .i64 t23,.int .i64 0,.slice none 0 0,.slice none 0 0]) ?_ 1 _ rfl;(with_reducible repeat (first|refine blk_drewN ?_ _|refine blk_drew ?_|refine blk_alloc ?_ _));refine blk_put (cs:=#[.int .i64 0,.int .i64 0,.slice none 0 0,.slice none 0 0]) ?_ 0 _ rfl;(with_reducible repeat (first|refine blk_drewN ?_ _|refine blk_drew ?_|refine blk_alloc ?_ _));exact BK2.out) Try.underlying45 rfl (by kernel_rfl)) rfl ?_
                    exact ⟨_,_,by first|rfl|(simp [errW_none,errW_some] <;> rfl)|(simp [*,errW_none,errW_some] <;> rfl),by (with_reducible repeat (first|apply Kd.R_alloc|apply Kd.R_drewN|apply Kd.R_drew));exact Kd.R_mono (Kd.R_far (p:=⟨gb2,3,none⟩) (Kd.R_far (p:=⟨gb2,2,none⟩) (Kd.R_far (p:=⟨gb2,1,none⟩) (Kd.R_far (p:=⟨gb2,0,none⟩) (Kd.R_types HO27.out BK2.out (by decide)) (fun _ hk=>hk.2) (.int .i64 t23)) (fun _ hk=>hk.2) (.int .i64 t24)) (fun _ hk=>hk.2) (.slice Ao113 t25.length co113)) (fun _ hk=>hk.2) (.slice Ao114 t28.length co114)) (fun _ hk=>hk.1.1),by (with_reducible repeat (first|apply Kd.R_alloc|apply Kd.R_drewN|apply Kd.R_drew));exact Kd.R_mono (Kd.R_far (p:=⟨gb2,3,none⟩) (Kd.R_far (p:=⟨gb2,2,none⟩) (Kd.R_far (p:=⟨gb2,1,none⟩) (Kd.R_far (p:=⟨gb2,0,none⟩) (Kd.R_types HO30.out BK2.out (by decide)) (fun _ hk=>hk.2) (.int .i64 t23)) (fun _ hk=>hk.2) (.int .i64 t24)) (fun _ hk=>hk.2) (.slice Ao113 t25.length co113)) (fun _ hk=>hk.2) (.slice Ao114 t28.length co114)) (fun _ hk=>hk.1),by repeat (first|(with_reducible first|exact HB.out|apply below_alloc|apply pw_below_drewN|apply below_drew1|refine below_set ?_ GE1.out|refine below_set ?_ GE2.out|refine below_set ?_ GE6.out)|exact HB.out),by repeat (first|(with_reducible first|exact HK.out|apply Kept.alloc|apply Kept.drewN|apply Kept.drew|refine Kept.setCell ?_ (.inr GW1.out) _|refine Kept.setCell ?_ (.inr GW2.out) _|refine Kept.setCell ?_ (.inr GW6.out) _)|exact HK.out)⟩
      ·
       rw [if_neg c38] at H
       exact absurd H (by simp)
     ·
      rw [if_neg c37] at H
      exact absurd H (by simp)
end Go.Proofs.Ytpejjpecdkbleaa.Print
