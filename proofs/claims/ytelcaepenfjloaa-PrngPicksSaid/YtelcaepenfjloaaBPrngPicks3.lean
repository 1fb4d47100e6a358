/- The proof of the statement PrngPicks of the seat, part 3 of 6: the functions that it reaches, as plain functions, with the walks that show it, and what they come to; the last part ends in the row. No condition beyond the statement's own. -/
import Derived.Test.YtelcaepenfjloaaBPrngPicks1
import Derived.Test.YtelcaepenfjloaaBPrngPicks2
/-! #### Pr84 -/
namespace Go.Proofs.Ytelcaepenfjloaa.Print
open Go.RowKit Go.Proofs.YtelcaepenfjloaaW.PrintWords Go.Proofs.YtelcaepenfjloaaW.PrintLast Go.Proofs.YtelcaepenfjloaaW.PrintMore
attribute [local go_sem] max2_int min2_int max_two min_two max_three min_three max_four min_four
set_option linter.unusedVariables false
set_option linter.unusedSimpArgs false
/-! ### mosaicref01_Words: function 84 -/
mutual
def mosaicref01_Words.l0:Nat→ByteArray→List Int→Int→Option (List Int)
 | 0,_,_,_=>none
 | k+1,x0,x3,x4=>if x4 < 16 then (if 0≤(wrap64 (4 * x4)) then (if (wrap64 (4 * x4)) < (x0.size:Int) then (if 0≤(wrap64 ((wrap64 (4 * x4))+1)) then (if (wrap64 ((wrap64 (4 * x4))+1)) < (x0.size:Int) then (if 0≤(wrap64 ((wrap64 (4 * x4))+2)) then (if (wrap64 ((wrap64 (4 * x4))+2)) < (x0.size:Int) then (if 0≤(wrap64 ((wrap64 (4 * x4))+3)) then (if (wrap64 ((wrap64 (4 * x4))+3)) < (x0.size:Int) then (if x3.length < 35184372088832 then (mosaicref01_Words.l0 k x0 (x3 ++ [(((((((((bt x0 (wrap64 (4 * x4))) % 4294967296) * 16777216) % 4294967296)+((((bt x0 (wrap64 ((wrap64 (4 * x4))+1))) % 4294967296) * 65536) % 4294967296)) % 4294967296)+((((bt x0 (wrap64 ((wrap64 (4 * x4))+2))) % 4294967296) * 256) % 4294967296)) % 4294967296)+((bt x0 (wrap64 ((wrap64 (4 * x4))+3))) % 4294967296)) % 4294967296]) (wrap64 (x4+1))) else (none)) else (none)) else (none)) else (none)) else (none)) else (none)) else (none)) else (none)) else (none)) else (mosaicref01_Words.l1 k x3 16)
def mosaicref01_Words.l1:Nat→List Int→Int→Option (List Int)
 | 0,_,_=>none
 | k+1,x3,x5=>if x5 < 64 then (if 0≤(wrap64 (x5 - 15)) then (if (wrap64 (x5 - 15)) < (x3.length:Int) then (if 0≤(wrap64 (x5 - 2)) then (if (wrap64 (x5 - 2)) < (x3.length:Int) then ((mosaicref01_rotr.f (rd x3 (wrap64 (x5 - 15))) 7).bind fun t136=>((mosaicref01_rotr.f (rd x3 (wrap64 (x5 - 15))) 18).bind fun t137=>((mosaicref01_rotr.f (rd x3 (wrap64 (x5 - 2))) 17).bind fun t138=>((mosaicref01_rotr.f (rd x3 (wrap64 (x5 - 2))) 19).bind fun t139=>(if 0≤(wrap64 (x5 - 7)) then (if (wrap64 (x5 - 7)) < (x3.length:Int) then (if 0≤(wrap64 (x5 - 16)) then (if (wrap64 (x5 - 16)) < (x3.length:Int) then (if x3.length < 35184372088832 then (mosaicref01_Words.l1 k (x3 ++ [((((((Go.bits .xor .u32 (Go.bits .xor .u32 t138 t139) ((rd x3 (wrap64 (x5 - 2))) / 1024))+(rd x3 (wrap64 (x5 - 7)))) % 4294967296)+(Go.bits .xor .u32 (Go.bits .xor .u32 t136 t137) ((rd x3 (wrap64 (x5 - 15))) / 8))) % 4294967296)+(rd x3 (wrap64 (x5 - 16)))) % 4294967296]) (wrap64 (x5+1))) else (none)) else (none)) else (none)) else (none)) else (none)))))) else (none)) else (none)) else (none)) else (none)) else (some x3)
end
def mosaicref01_Words.f (k:Nat) (a0:ByteArray):Option (List Int):=mosaicref01_Words.l0 k a0 ([]:List Int) 0
theorem mosaicref01_Words.mono_l:∀ k,(∀ y0 y1 y2,LeO (mosaicref01_Words.l0 k y0 y1 y2) (mosaicref01_Words.l0 (k+1) y0 y1 y2))∧(∀ y0 y1,LeO (mosaicref01_Words.l1 k y0 y1) (mosaicref01_Words.l1 (k+1) y0 y1))
 | 0=>⟨fun _ _ _ r h=>by simp [mosaicref01_Words.l0] at h,fun _ _ r h=>by simp [mosaicref01_Words.l1] at h⟩
 | k+1=>by
  obtain ⟨ih0,ih1⟩:=mosaicref01_Words.mono_l k
  refine ⟨?_,?_⟩
  ·
   intro y0 y1 y2
   unfold mosaicref01_Words.l0
   repeat' first
   | (with_reducible exact ih0 _ _ _)
   | (with_reducible exact ih1 _ _)
   | (with_reducible exact LeO.refl _)
   | (with_reducible exact LeO.none _)
   | (with_reducible refine LeO.ite ?_ ?_)
   | (with_reducible refine LeO.bind ?_ (fun _=>?_))
   | exact ih0 _ _ _
   | exact ih1 _ _
   | exact LeO.none _
   | refine LeO.ite ?_ ?_
   | refine LeO.bind ?_ (fun _=>?_)
  ·
   intro y0 y1
   unfold mosaicref01_Words.l1
   repeat' first
   | (with_reducible exact ih0 _ _ _)
   | (with_reducible exact ih1 _ _)
   | (with_reducible exact LeO.refl _)
   | (with_reducible exact LeO.none _)
   | (with_reducible refine LeO.ite ?_ ?_)
   | (with_reducible refine LeO.bind ?_ (fun _=>?_))
   | exact ih0 _ _ _
   | exact ih1 _ _
   | exact LeO.none _
   | refine LeO.ite ?_ ?_
   | refine LeO.bind ?_ (fun _=>?_)
theorem mosaicref01_Words.mono:∀ a0 k,LeO (mosaicref01_Words.f k a0) (mosaicref01_Words.f (k+1) a0):=by
 intro a0 k
 obtain ⟨ih0,ih1⟩:=mosaicref01_Words.mono_l k
 unfold mosaicref01_Words.f
 repeat' first
   | (with_reducible exact ih0 _ _ _)
   | (with_reducible exact ih1 _ _)
   | (with_reducible exact LeO.refl _)
   | (with_reducible exact LeO.none _)
   | (with_reducible refine LeO.ite ?_ ?_)
   | (with_reducible refine LeO.bind ?_ (fun _=>?_))
   | exact ih0 _ _ _
   | exact ih1 _ _
   | exact LeO.none _
   | refine LeO.ite ?_ ?_
   | refine LeO.bind ?_ (fun _=>?_)
def mosaicref01_Words.T5:Bool×List (List Nat×List Nat):=(true,[([],[]),([],[]),([],[]),([2],[2]),([1,3],[1,3]),([4],[4]),([5],[5]),([],[]),([],[]),([8],[8]),([9],[9]),([7,10],[7,10]),([11],[11]),([12],[12]),([6,13],[6,13]),([],[]),([],[]),([16],[16]),([17],[17]),([15,18],[15,18]),([19],[19]),([20],[20]),([14,21],[14,21]),([],[]),([],[]),([24],[24]),([25],[25]),([23,26],[23,26]),([27],[27]),([22,28],[22,28]),([29],[29]),([0,30],[0,30]),([31,31,0,1,2,3,4,5,6,7,8,9,10,11,12,13,14,15,16,17,18,19,20,21,22,23,24,25,26,27,28,29,30,31],[0,31])])
def mosaicref01_Words.B5:List Nat:=[0,0,0,4,14,30,62,0,0,256,768,1920,3968,8064,16382,0,0,65536,196608,491520,1015808,2064384,4194302,0,0,16777216,50331648,125829120,260046848,536870910,1073741822,2147483647,4294967295]
theorem mosaicref01_Words.tab5:rtab .any (opsOf Try.f84 5)=mosaicref01_Words.T5:=by kernel_rfl
theorem mosaicref01_Words.bits5:waitsOk mosaicref01_Words.T5.2 mosaicref01_Words.B5=true:=by kernel_rfl
def mosaicref01_Words.T13:Bool×List (List Nat×List Nat):=(true,[([],[]),([],[]),([],[]),([],[]),([3],[3]),([2,4],[2,4]),([5],[5]),([1,6],[1,6]),([],[]),([7,8],[7,8]),([],[]),([],[]),([11],[11]),([10,12],[10,12]),([13],[13]),([9,14],[9,14]),([15],[15]),([0,16],[0,16]),([17,17,0,1,2,3,4,5,6,7,8,9,10,11,12,13,14,15,16,17],[0,2,10,17])])
def mosaicref01_Words.B13:List Nat:=[0,0,0,0,8,28,60,126,0,510,0,0,2048,7168,15360,32766,65534,131071,262143]
theorem mosaicref01_Words.tab13:rtab .any (opsOf Try.f84 13)=mosaicref01_Words.T13:=by kernel_rfl
theorem mosaicref01_Words.bits13:waitsOk mosaicref01_Words.T13.2 mosaicref01_Words.B13=true:=by kernel_rfl
set_option maxHeartbeats 8000000 in
set_option maxRecDepth 100000 in
theorem mosaicref01_Words.calls (k:Nat) (a0:ByteArray) (r:List Int) (w:World) (h:mosaicref01_Words.f k a0=some r) :
  Calls Try.prog 84 #[.string a0] w fun e w'=>∃ v0_:Value,e=.returned (v0_)∧Kd.R (Kd.int .u32) 27 w' w.heap.size (fun _=>True) v0_ r∧Below w.heap.size w w':=by
 have HB:=Aside0.mk (Below.refl w.heap.size w)
 have H:(mosaicref01_Words.l0 k a0 ([]:List Int) 0)=some r:=h
 clear h
 have H':=Aside0.mk H
 clear H
 go_enter Try.func84,Try.ntmps84
 go_wp2
 go_loopg [3,4] k (fun kq v3 v4 w'=>∃ (x3_1:List Int) (x4_1:Int),v4=.int .i64 x4_1∧Aside0 (mosaicref01_Words.l0 kq a0 x3_1 x4_1=some r)∧Aside0 (kq≤k)∧Aside0 (Kd.R (Kd.int .u32) 27 w' w.heap.size (fun _=>True) v3 x3_1)∧Aside0 (Below w.heap.size w w'))
 case atStart=>exact ⟨(([]:List Int)),(0),(by first|rfl|(simp;done)|(simp [*];done)),H',⟨Nat.le_refl _⟩,⟨by first|exact Kd.R_nil _ _ _ _ _|exact Kd.N_nil _ _ _ _ _|exact Kd.V_nil _ _ _ _ _|exact Kd.Q_nil _ _ _ _ _|exact Kd.S_nil _ _ _ _ _⟩,⟨by repeat (first|(with_reducible first|exact HB.out|apply below_alloc|apply pw_below_drewN|apply below_drew1)|exact HB.out)⟩⟩
 case round =>
  clear H'
  obtain ⟨x3_1,x4_1,rfl,HA,HK1,HO_3,HB⟩:=hrel
  cases gk with
  | zero=>exact absurd HA.out (by simp [mosaicref01_Words.l0])
  | succ k1 =>
   have H:=HA.out
   clear HA
   simp only [mosaicref01_Words.l0] at H
   by_cases c2:x4_1 < 16
   ·
    rw [if_pos c2] at H
    have c2b0:decide (x4_1 < 16)=true:=decide_eq_true c2
    clear c2
    obtain ⟨ji3,hji3⟩:∃ j_:Int,(wrap64 (4 * x4_1))=j_:=⟨_,rfl⟩
    replace H:(if 0≤(ji3) then (if (ji3) < (a0.size:Int) then (if 0≤(wrap64 ((ji3)+1)) then (if (wrap64 ((ji3)+1)) < (a0.size:Int) then (if 0≤(wrap64 ((ji3)+2)) then (if (wrap64 ((ji3)+2)) < (a0.size:Int) then (if 0≤(wrap64 ((ji3)+3)) then (if (wrap64 ((ji3)+3)) < (a0.size:Int) then (if x3_1.length < 35184372088832 then (mosaicref01_Words.l0 k1 a0 (x3_1 ++ [(((((((((bt a0 (ji3)) % 4294967296) * 16777216) % 4294967296)+((((bt a0 (wrap64 ((ji3)+1))) % 4294967296) * 65536) % 4294967296)) % 4294967296)+((((bt a0 (wrap64 ((ji3)+2))) % 4294967296) * 256) % 4294967296)) % 4294967296)+((bt a0 (wrap64 ((ji3)+3))) % 4294967296)) % 4294967296]) (wrap64 (x4_1+1))) else (none)) else (none)) else (none)) else (none)) else (none)) else (none)) else (none)) else (none)) else (none))=some r:=by first|(rw [hji3] at H;exact H)|(simp only [hji3] at H ⊢;exact H)
    have hji3w:(IntKind.i64.wrap (4 * x4_1))=ji3:=(i64_w _).trans hji3
    by_cases c4:0≤(ji3)
    ·
     rw [if_pos c4] at H
     have c4b0:decide (0≤(ji3))=true:=decide_eq_true c4
     clear c4
     by_cases c5:(ji3) < (a0.size:Int)
     ·
      rw [if_pos c5] at H
      have c5b0:decide ((ji3) < (a0.size:Int))=true:=decide_eq_true c5
      clear c5
      obtain ⟨ji7,hji7⟩:∃ j_:Int,(wrap64 ((ji3)+1))=j_:=⟨_,rfl⟩
      replace H:(if 0≤(ji7) then (if (ji7) < (a0.size:Int) then (if 0≤(wrap64 ((ji3)+2)) then (if (wrap64 ((ji3)+2)) < (a0.size:Int) then (if 0≤(wrap64 ((ji3)+3)) then (if (wrap64 ((ji3)+3)) < (a0.size:Int) then (if x3_1.length < 35184372088832 then (mosaicref01_Words.l0 k1 a0 (x3_1 ++ [(((((((((bt a0 (ji3)) % 4294967296) * 16777216) % 4294967296)+((((bt a0 (ji7)) % 4294967296) * 65536) % 4294967296)) % 4294967296)+((((bt a0 (wrap64 ((ji3)+2))) % 4294967296) * 256) % 4294967296)) % 4294967296)+((bt a0 (wrap64 ((ji3)+3))) % 4294967296)) % 4294967296]) (wrap64 (x4_1+1))) else (none)) else (none)) else (none)) else (none)) else (none)) else (none)) else (none))=some r:=by first|(rw [hji7] at H;exact H)|(simp only [hji7] at H ⊢;exact H)
      have hji7w:(IntKind.i64.wrap ((ji3)+1))=ji7:=(i64_w _).trans hji7
      by_cases c8:0≤(ji7)
      ·
       rw [if_pos c8] at H
       have c8b0:decide (0≤(ji7))=true:=decide_eq_true c8
       clear c8
       by_cases c9:(ji7) < (a0.size:Int)
       ·
        rw [if_pos c9] at H
        have c9b0:decide ((ji7) < (a0.size:Int))=true:=decide_eq_true c9
        clear c9
        obtain ⟨ji11,hji11⟩:∃ j_:Int,(wrap64 ((ji3)+2))=j_:=⟨_,rfl⟩
        replace H:(if 0≤(ji11) then (if (ji11) < (a0.size:Int) then (if 0≤(wrap64 ((ji3)+3)) then (if (wrap64 ((ji3)+3)) < (a0.size:Int) then (if x3_1.length < 35184372088832 then (mosaicref01_Words.l0 k1 a0 (x3_1 ++ [(((((((((bt a0 (ji3)) % 4294967296) * 16777216) % 4294967296)+((((bt a0 (ji7)) % 4294967296) * 65536) % 4294967296)) % 4294967296)+((((bt a0 (ji11)) % 4294967296) * 256) % 4294967296)) % 4294967296)+((bt a0 (wrap64 ((ji3)+3))) % 4294967296)) % 4294967296]) (wrap64 (x4_1+1))) else (none)) else (none)) else (none)) else (none)) else (none))=some r:=by first|(rw [hji11] at H;exact H)|(simp only [hji11] at H ⊢;exact H)
        have hji11w:(IntKind.i64.wrap ((ji3)+2))=ji11:=(i64_w _).trans hji11
        by_cases c12:0≤(ji11)
        ·
         rw [if_pos c12] at H
         have c12b0:decide (0≤(ji11))=true:=decide_eq_true c12
         clear c12
         by_cases c13:(ji11) < (a0.size:Int)
         ·
          rw [if_pos c13] at H
          have c13b0:decide ((ji11) < (a0.size:Int))=true:=decide_eq_true c13
          clear c13
          obtain ⟨ji15,hji15⟩:∃ j_:Int,(wrap64 ((ji3)+3))=j_:=⟨_,rfl⟩
          replace H:(if 0≤(ji15) then (if (ji15) < (a0.size:Int) then (if x3_1.length < 35184372088832 then (mosaicref01_Words.l0 k1 a0 (x3_1 ++ [(((((((((bt a0 (ji3)) % 4294967296) * 16777216) % 4294967296)+((((bt a0 (ji7)) % 4294967296) * 65536) % 4294967296)) % 4294967296)+((((bt a0 (ji11)) % 4294967296) * 256) % 4294967296)) % 4294967296)+((bt a0 (ji15)) % 4294967296)) % 4294967296]) (wrap64 (x4_1+1))) else (none)) else (none)) else (none))=some r:=by first|(rw [hji15] at H;exact H)|(simp only [hji15] at H ⊢;exact H)
          have hji15w:(IntKind.i64.wrap ((ji3)+3))=ji15:=(i64_w _).trans hji15
          by_cases c16:0≤(ji15)
          ·
           rw [if_pos c16] at H
           have c16b0:decide (0≤(ji15))=true:=decide_eq_true c16
           clear c16
           by_cases c17:(ji15) < (a0.size:Int)
           ·
            rw [if_pos c17] at H
            have c17b0:decide ((ji15) < (a0.size:Int))=true:=decide_eq_true c17
            clear c17
            by_cases c19:x3_1.length < 35184372088832
            ·
             rw [if_pos c19] at H
             have LMc19:=Aside0.mk c19
             clear c19
             obtain ⟨y131,hy131⟩:∃ y_:List Int,y_=(x3_1 ++ [(((((((((bt a0 (ji3)) % 4294967296) * 16777216) % 4294967296)+((((bt a0 (ji7)) % 4294967296) * 65536) % 4294967296)) % 4294967296)+((((bt a0 (ji11)) % 4294967296) * 256) % 4294967296)) % 4294967296)+((bt a0 (ji15)) % 4294967296)) % 4294967296]):=⟨_,rfl⟩
             replace H:(mosaicref01_Words.l0 k1 a0 y131 (wrap64 (x4_1+1)))=some r:=by first|(rw [hy131];with_reducible exact H)|(have H2_:=(Option.bind_some _ _).symm.trans H;rw [hy131];with_reducible exact H2_)|(have H2_:=(Option.bind_some _ _).symm.trans H;with_reducible exact H2_)|with_reducible exact H|(rw [hy131];exact H)|exact H
             have Ny131:=Aside0.mk hy131
             clear hy131
             have H':=Aside0.mk H
             clear H
             try go_wp2
             have n0_:=Aside0.mk (Kd.R_drew HO_3.out)
             have n1_:=Aside0.mk (below_drew1 HB.out)
             clear HO_3
             clear HB
             have HO_3:=n0_
             have HB:=n1_
             clear n0_ n1_
             have p6:0≤((ji3):Int):=of_decide_eq_true (by first|(with_reducible assumption)|assumption)
             have q6:(ji3) < (a0.size:Int):=of_decide_eq_true (by first|(with_reducible assumption)|assumption)
             have hx6:=bt_at a0 (ji3)
             replace p6:=eq_true p6
             replace q6:=eq_true q6
             have p10:0≤((ji7):Int):=of_decide_eq_true (by first|(with_reducible assumption)|assumption)
             have q10:(ji7) < (a0.size:Int):=of_decide_eq_true (by first|(with_reducible assumption)|assumption)
             have hx10:=bt_at a0 (ji7)
             replace p10:=eq_true p10
             replace q10:=eq_true q10
             have p14:0≤((ji11):Int):=of_decide_eq_true (by first|(with_reducible assumption)|assumption)
             have q14:(ji11) < (a0.size:Int):=of_decide_eq_true (by first|(with_reducible assumption)|assumption)
             have hx14:=bt_at a0 (ji11)
             replace p14:=eq_true p14
             replace q14:=eq_true q14
             have p18:0≤((ji15):Int):=of_decide_eq_true (by first|(with_reducible assumption)|assumption)
             have q18:(ji15) < (a0.size:Int):=of_decide_eq_true (by first|(with_reducible assumption)|assumption)
             have hx18:=bt_at a0 (ji15)
             replace p18:=eq_true p18
             replace q18:=eq_true q18
             refine start_ (n:=33) (S:=fun w'=>True) (ds:=[]) #[false,false,false,false,false,false,false,false,false,false,false,false,false,false,false,false,false,false,false,false,false,false,false,false,false,false,false,false,false,false,false,false,false] (by kernel_rfl) rfl rfl trivial (fun hHeld=>?_);refine with_tabW mosaicref01_Words.tab5 mosaicref01_Words.bits5 (fun HT_ HW_=>?_)
             generalize wr.drew=w20 at HO_3 HB hHeld ⊢
             refine pure_ (i:=0) (N:=some 14) (v:=?_) (a':=?_) #[true,false,false,false,false,false,false,false,false,false,false,false,false,false,false,false,false,false,false,false,false,false,false,false,false,false,false,false,false,false,false,false,false] rfl rfl (any_of HT_.out (by kernel_rfl)) (fun _ _ _ h=>h) (Or.inl ⟨by rfl,?_⟩) ?_ ?_
             rotate_left
             ·
              intro w'
              go_simp
              with_reducible rfl
             rotate_left
             ·
              simp only [Act.put,List.setIfInBounds_toArray,List.set_cons_zero,List.set_cons_succ,i64_w,i32_w]
              rfl
             refine pure_ (i:=1) (N:=some 15) (v:=?_) (a':=?_) #[true,true,false,false,false,false,false,false,false,false,false,false,false,false,false,false,false,false,false,false,false,false,false,false,false,false,false,false,false,false,false,false,false] rfl rfl (any_of HT_.out (by kernel_rfl)) (fun _ _ _ h=>h) (Or.inl ⟨by rfl,?_⟩) ?_ ?_
             rotate_left
             ·
              intro w'
              go_simp
              with_reducible rfl
             rotate_left
             ·
              simp only [Act.put,List.setIfInBounds_toArray,List.set_cons_zero,List.set_cons_succ,i64_w,i32_w]
              rfl
             refine pure_ (i:=2) (N:=some 16) (v:=?_) (a':=?_) #[true,true,true,false,false,false,false,false,false,false,false,false,false,false,false,false,false,false,false,false,false,false,false,false,false,false,false,false,false,false,false,false,false] rfl rfl (any_of HT_.out (by kernel_rfl)) (fun _ _ _ h=>h) (Or.inl ⟨by rfl,?_⟩) ?_ ?_
             rotate_left
             ·
              intro w'
              go_simp
              with_reducible rfl
             rotate_left
             ·
              simp only [Act.put,List.setIfInBounds_toArray,List.set_cons_zero,List.set_cons_succ,i64_w,i32_w]
              rfl
             refine pure_ (i:=3) (N:=some 17) (v:=?_) (a':=?_) #[true,true,true,true,false,false,false,false,false,false,false,false,false,false,false,false,false,false,false,false,false,false,false,false,false,false,false,false,false,false,false,false,false] rfl rfl (any_of HT_.out (by kernel_rfl)) (fun _ _ _ h=>h) (Or.inl ⟨by rfl,?_⟩) ?_ ?_
             rotate_left
             ·
              intro w'
              go_simp
              with_reducible rfl
             rotate_left
             ·
              simp only [Act.put,List.setIfInBounds_toArray,List.set_cons_zero,List.set_cons_succ,i64_w,i32_w]
              rfl
             refine pure_ (i:=7) (N:=some 21) (v:=?_) (a':=?_) #[true,true,true,true,false,false,false,true,false,false,false,false,false,false,false,false,false,false,false,false,false,false,false,false,false,false,false,false,false,false,false,false,false] rfl rfl (any_of HT_.out (by kernel_rfl)) (fun _ _ _ h=>h) (Or.inl ⟨by rfl,?_⟩) ?_ ?_
             rotate_left
             ·
              intro w'
              go_simp
              with_reducible rfl
             rotate_left
             ·
              simp only [Act.put,List.setIfInBounds_toArray,List.set_cons_zero,List.set_cons_succ,i64_w,i32_w]
              rfl
             refine pure_ (i:=8) (N:=some 22) (v:=?_) (a':=?_) #[true,true,true,true,false,false,false,true,true,false,false,false,false,false,false,false,false,false,false,false,false,false,false,false,false,false,false,false,false,false,false,false,false] rfl rfl (any_of HT_.out (by kernel_rfl)) (fun _ _ _ h=>h) (Or.inl ⟨by rfl,?_⟩) ?_ ?_
             rotate_left
             ·
              intro w'
              go_simp
              with_reducible rfl
             rotate_left
             ·
              simp only [Act.put,List.setIfInBounds_toArray,List.set_cons_zero,List.set_cons_succ,i64_w,i32_w]
              rfl
             refine pure_ (i:=9) (N:=some 23) (v:=?_) (a':=?_) #[true,true,true,true,false,false,false,true,true,true,false,false,false,false,false,false,false,false,false,false,false,false,false,false,false,false,false,false,false,false,false,false,false] rfl rfl (any_of HT_.out (by kernel_rfl)) (fun _ _ _ h=>h) (Or.inl ⟨by rfl,?_⟩) ?_ ?_
             rotate_left
             ·
              intro w'
              go_simp
              with_reducible rfl
             rotate_left
             ·
              simp only [Act.put,List.setIfInBounds_toArray,List.set_cons_zero,List.set_cons_succ,i64_w,i32_w]
              rfl
             refine pure_ (i:=10) (N:=some 24) (v:=?_) (a':=?_) #[true,true,true,true,false,false,false,true,true,true,true,false,false,false,false,false,false,false,false,false,false,false,false,false,false,false,false,false,false,false,false,false,false] rfl rfl (any_of HT_.out (by kernel_rfl)) (fun _ _ _ h=>h) (Or.inl ⟨by rfl,?_⟩) ?_ ?_
             rotate_left
             ·
              intro w'
              go_simp
              with_reducible rfl
             rotate_left
             ·
              simp only [Act.put,List.setIfInBounds_toArray,List.set_cons_zero,List.set_cons_succ,i64_w,i32_w]
              rfl
             refine pure_ (i:=15) (N:=some 29) (v:=?_) (a':=?_) #[true,true,true,true,false,false,false,true,true,true,true,false,false,false,false,true,false,false,false,false,false,false,false,false,false,false,false,false,false,false,false,false,false] rfl rfl (any_of HT_.out (by kernel_rfl)) (fun _ _ _ h=>h) (Or.inl ⟨by rfl,?_⟩) ?_ ?_
             rotate_left
             ·
              intro w'
              go_simp
              with_reducible rfl
             rotate_left
             ·
              simp only [Act.put,List.setIfInBounds_toArray,List.set_cons_zero,List.set_cons_succ,i64_w,i32_w]
              rfl
             refine pure_ (i:=16) (N:=some 30) (v:=?_) (a':=?_) #[true,true,true,true,false,false,false,true,true,true,true,false,false,false,false,true,true,false,false,false,false,false,false,false,false,false,false,false,false,false,false,false,false] rfl rfl (any_of HT_.out (by kernel_rfl)) (fun _ _ _ h=>h) (Or.inl ⟨by rfl,?_⟩) ?_ ?_
             rotate_left
             ·
              intro w'
              go_simp
              with_reducible rfl
             rotate_left
             ·
              simp only [Act.put,List.setIfInBounds_toArray,List.set_cons_zero,List.set_cons_succ,i64_w,i32_w]
              rfl
             refine pure_ (i:=17) (N:=some 31) (v:=?_) (a':=?_) #[true,true,true,true,false,false,false,true,true,true,true,false,false,false,false,true,true,true,false,false,false,false,false,false,false,false,false,false,false,false,false,false,false] rfl rfl (any_of HT_.out (by kernel_rfl)) (fun _ _ _ h=>h) (Or.inl ⟨by rfl,?_⟩) ?_ ?_
             rotate_left
             ·
              intro w'
              go_simp
              with_reducible rfl
             rotate_left
             ·
              simp only [Act.put,List.setIfInBounds_toArray,List.set_cons_zero,List.set_cons_succ,i64_w,i32_w]
              rfl
             refine pure_ (i:=18) (N:=some 32) (v:=?_) (a':=?_) #[true,true,true,true,false,false,false,true,true,true,true,false,false,false,false,true,true,true,true,false,false,false,false,false,false,false,false,false,false,false,false,false,false] rfl rfl (any_of HT_.out (by kernel_rfl)) (fun _ _ _ h=>h) (Or.inl ⟨by rfl,?_⟩) ?_ ?_
             rotate_left
             ·
              intro w'
              go_simp
              with_reducible rfl
             rotate_left
             ·
              simp only [Act.put,List.setIfInBounds_toArray,List.set_cons_zero,List.set_cons_succ,i64_w,i32_w]
              rfl
             refine pure_ (i:=23) (N:=some 37) (v:=?_) (a':=?_) #[true,true,true,true,false,false,false,true,true,true,true,false,false,false,false,true,true,true,true,false,false,false,false,true,false,false,false,false,false,false,false,false,false] rfl rfl (any_of HT_.out (by kernel_rfl)) (fun _ _ _ h=>h) (Or.inl ⟨by rfl,?_⟩) ?_ ?_
             rotate_left
             ·
              intro w'
              go_simp
              with_reducible rfl
             rotate_left
             ·
              simp only [Act.put,List.setIfInBounds_toArray,List.set_cons_zero,List.set_cons_succ,i64_w,i32_w]
              rfl
             refine pure_ (i:=24) (N:=some 38) (v:=?_) (a':=?_) #[true,true,true,true,false,false,false,true,true,true,true,false,false,false,false,true,true,true,true,false,false,false,false,true,true,false,false,false,false,false,false,false,false] rfl rfl (any_of HT_.out (by kernel_rfl)) (fun _ _ _ h=>h) (Or.inl ⟨by rfl,?_⟩) ?_ ?_
             rotate_left
             ·
              intro w'
              go_simp
              with_reducible rfl
             rotate_left
             ·
              simp only [Act.put,List.setIfInBounds_toArray,List.set_cons_zero,List.set_cons_succ,i64_w,i32_w]
              rfl
             refine pure_ (i:=25) (N:=some 39) (v:=?_) (a':=?_) #[true,true,true,true,false,false,false,true,true,true,true,false,false,false,false,true,true,true,true,false,false,false,false,true,true,true,false,false,false,false,false,false,false] rfl rfl (any_of HT_.out (by kernel_rfl)) (fun _ _ _ h=>h) (Or.inl ⟨by rfl,?_⟩) ?_ ?_
             rotate_left
             ·
              intro w'
              go_simp
              with_reducible rfl
             rotate_left
             ·
              simp only [Act.put,List.setIfInBounds_toArray,List.set_cons_zero,List.set_cons_succ,i64_w,i32_w]
              rfl
             refine pure_ (i:=26) (N:=some 40) (v:=?_) (a':=?_) #[true,true,true,true,false,false,false,true,true,true,true,false,false,false,false,true,true,true,true,false,false,false,false,true,true,true,true,false,false,false,false,false,false] rfl rfl (any_of HT_.out (by kernel_rfl)) (fun _ _ _ h=>h) (Or.inl ⟨by rfl,?_⟩) ?_ ?_
             rotate_left
             ·
              intro w'
              go_simp
              with_reducible rfl
             rotate_left
             ·
              simp only [Act.put,List.setIfInBounds_toArray,List.set_cons_zero,List.set_cons_succ,i64_w,i32_w]
              rfl
             refine take_ (i:=4) (N:=some 18) (v:=?_) (a':=?_) #[true,true,true,true,true,false,false,true,true,true,true,false,false,false,false,true,true,true,true,false,false,false,false,true,true,true,true,false,false,false,false,false,false] rfl rfl (take_ofW HT_.out HW_.out (by kernel_rfl)) (fun _ _ _ h=>h) (Or.inl ⟨by rfl,?_⟩) hHeld ?_ ?_
             rotate_left
             ·
              intro w' _
              go_simp
              with_reducible rfl
             rotate_left
             ·
              simp only [Act.put,List.setIfInBounds_toArray,List.set_cons_zero,List.set_cons_succ,i64_w,i32_w]
              rfl
             refine pure_ (i:=5) (N:=some 19) (v:=?_) (a':=?_) #[true,true,true,true,true,true,false,true,true,true,true,false,false,false,false,true,true,true,true,false,false,false,false,true,true,true,true,false,false,false,false,false,false] rfl rfl (any_of HT_.out (by kernel_rfl)) (fun _ _ _ h=>h) (Or.inl ⟨by rfl,?_⟩) ?_ ?_
             rotate_left
             ·
              intro w'
              go_simp
              with_reducible rfl
             rotate_left
             ·
              simp only [Act.put,List.setIfInBounds_toArray,List.set_cons_zero,List.set_cons_succ,i64_w,i32_w]
              rfl
             refine pure_ (i:=6) (N:=some 20) (v:=?_) (a':=?_) #[true,true,true,true,true,true,true,true,true,true,true,false,false,false,false,true,true,true,true,false,false,false,false,true,true,true,true,false,false,false,false,false,false] rfl rfl (any_of HT_.out (by kernel_rfl)) (fun _ _ _ h=>h) (Or.inl ⟨by rfl,?_⟩) ?_ ?_
             rotate_left
             ·
              intro w'
              go_simp
              with_reducible rfl
             rotate_left
             ·
              simp only [Act.put,List.setIfInBounds_toArray,List.set_cons_zero,List.set_cons_succ,i64_w,i32_w]
              rfl
             refine take_ (i:=11) (N:=some 25) (v:=?_) (a':=?_) #[true,true,true,true,true,true,true,true,true,true,true,true,false,false,false,true,true,true,true,false,false,false,false,true,true,true,true,false,false,false,false,false,false] rfl rfl (take_ofW HT_.out HW_.out (by kernel_rfl)) (fun _ _ _ h=>h) (Or.inl ⟨by rfl,?_⟩) hHeld ?_ ?_
             rotate_left
             ·
              intro w' _
              go_simp
              with_reducible rfl
             rotate_left
             ·
              simp only [Act.put,List.setIfInBounds_toArray,List.set_cons_zero,List.set_cons_succ,i64_w,i32_w]
              rfl
             refine pure_ (i:=12) (N:=some 26) (v:=?_) (a':=?_) #[true,true,true,true,true,true,true,true,true,true,true,true,true,false,false,true,true,true,true,false,false,false,false,true,true,true,true,false,false,false,false,false,false] rfl rfl (any_of HT_.out (by kernel_rfl)) (fun _ _ _ h=>h) (Or.inl ⟨by rfl,?_⟩) ?_ ?_
             rotate_left
             ·
              intro w'
              go_simp
              with_reducible rfl
             rotate_left
             ·
              simp only [Act.put,List.setIfInBounds_toArray,List.set_cons_zero,List.set_cons_succ,i64_w,i32_w]
              rfl
             refine pure_ (i:=13) (N:=some 27) (v:=?_) (a':=?_) #[true,true,true,true,true,true,true,true,true,true,true,true,true,true,false,true,true,true,true,false,false,false,false,true,true,true,true,false,false,false,false,false,false] rfl rfl (any_of HT_.out (by kernel_rfl)) (fun _ _ _ h=>h) (Or.inl ⟨by rfl,?_⟩) ?_ ?_
             rotate_left
             ·
              intro w'
              go_simp
              with_reducible rfl
             rotate_left
             ·
              simp only [Act.put,List.setIfInBounds_toArray,List.set_cons_zero,List.set_cons_succ,i64_w,i32_w]
              rfl
             refine pure_ (i:=14) (N:=some 28) (v:=?_) (a':=?_) #[true,true,true,true,true,true,true,true,true,true,true,true,true,true,true,true,true,true,true,false,false,false,false,true,true,true,true,false,false,false,false,false,false] rfl rfl (any_of HT_.out (by kernel_rfl)) (fun _ _ _ h=>h) (Or.inl ⟨by rfl,?_⟩) ?_ ?_
             rotate_left
             ·
              intro w'
              go_simp
              with_reducible rfl
             rotate_left
             ·
              simp only [Act.put,List.setIfInBounds_toArray,List.set_cons_zero,List.set_cons_succ,i64_w,i32_w]
              rfl
             refine take_ (i:=19) (N:=some 33) (v:=?_) (a':=?_) #[true,true,true,true,true,true,true,true,true,true,true,true,true,true,true,true,true,true,true,true,false,false,false,true,true,true,true,false,false,false,false,false,false] rfl rfl (take_ofW HT_.out HW_.out (by kernel_rfl)) (fun _ _ _ h=>h) (Or.inl ⟨by rfl,?_⟩) hHeld ?_ ?_
             rotate_left
             ·
              intro w' _
              go_simp
              with_reducible rfl
             rotate_left
             ·
              simp only [Act.put,List.setIfInBounds_toArray,List.set_cons_zero,List.set_cons_succ,i64_w,i32_w]
              rfl
             refine pure_ (i:=20) (N:=some 34) (v:=?_) (a':=?_) #[true,true,true,true,true,true,true,true,true,true,true,true,true,true,true,true,true,true,true,true,true,false,false,true,true,true,true,false,false,false,false,false,false] rfl rfl (any_of HT_.out (by kernel_rfl)) (fun _ _ _ h=>h) (Or.inl ⟨by rfl,?_⟩) ?_ ?_
             rotate_left
             ·
              intro w'
              go_simp
              with_reducible rfl
             rotate_left
             ·
              simp only [Act.put,List.setIfInBounds_toArray,List.set_cons_zero,List.set_cons_succ,i64_w,i32_w]
              rfl
             refine pure_ (i:=21) (N:=some 35) (v:=?_) (a':=?_) #[true,true,true,true,true,true,true,true,true,true,true,true,true,true,true,true,true,true,true,true,true,true,false,true,true,true,true,false,false,false,false,false,false] rfl rfl (any_of HT_.out (by kernel_rfl)) (fun _ _ _ h=>h) (Or.inl ⟨by rfl,?_⟩) ?_ ?_
             rotate_left
             ·
              intro w'
              go_simp
              with_reducible rfl
             rotate_left
             ·
              simp only [Act.put,List.setIfInBounds_toArray,List.set_cons_zero,List.set_cons_succ,i64_w,i32_w]
              rfl
             refine pure_ (i:=22) (N:=some 36) (v:=?_) (a':=?_) #[true,true,true,true,true,true,true,true,true,true,true,true,true,true,true,true,true,true,true,true,true,true,true,true,true,true,true,false,false,false,false,false,false] rfl rfl (any_of HT_.out (by kernel_rfl)) (fun _ _ _ h=>h) (Or.inl ⟨by rfl,?_⟩) ?_ ?_
             rotate_left
             ·
              intro w'
              go_simp
              with_reducible rfl
             rotate_left
             ·
              simp only [Act.put,List.setIfInBounds_toArray,List.set_cons_zero,List.set_cons_succ,i64_w,i32_w]
              rfl
             refine take_ (i:=27) (N:=some 41) (v:=?_) (a':=?_) #[true,true,true,true,true,true,true,true,true,true,true,true,true,true,true,true,true,true,true,true,true,true,true,true,true,true,true,true,false,false,false,false,false] rfl rfl (take_ofW HT_.out HW_.out (by kernel_rfl)) (fun _ _ _ h=>h) (Or.inl ⟨by rfl,?_⟩) hHeld ?_ ?_
             rotate_left
             ·
              intro w' _
              go_simp
              with_reducible rfl
             rotate_left
             ·
              simp only [Act.put,List.setIfInBounds_toArray,List.set_cons_zero,List.set_cons_succ,i64_w,i32_w]
              rfl
             refine pure_ (i:=28) (N:=some 42) (v:=?_) (a':=?_) #[true,true,true,true,true,true,true,true,true,true,true,true,true,true,true,true,true,true,true,true,true,true,true,true,true,true,true,true,true,false,false,false,false] rfl rfl (any_of HT_.out (by kernel_rfl)) (fun _ _ _ h=>h) (Or.inl ⟨by rfl,?_⟩) ?_ ?_
             rotate_left
             ·
              intro w'
              go_simp
              with_reducible rfl
             rotate_left
             ·
              simp only [Act.put,List.setIfInBounds_toArray,List.set_cons_zero,List.set_cons_succ,i64_w,i32_w]
              rfl
             refine pure_ (i:=29) (N:=some 43) (v:=?_) (a':=?_) #[true,true,true,true,true,true,true,true,true,true,true,true,true,true,true,true,true,true,true,true,true,true,true,true,true,true,true,true,true,true,false,false,false] rfl rfl (any_of HT_.out (by kernel_rfl)) (fun _ _ _ h=>h) (Or.inl ⟨by rfl,?_⟩) ?_ ?_
             rotate_left
             ·
              intro w'
              go_simp
              with_reducible rfl
             rotate_left
             ·
              simp only [Act.put,List.setIfInBounds_toArray,List.set_cons_zero,List.set_cons_succ,i64_w,i32_w]
              rfl
             refine one_ (i:=30) (N:=some 44) #[true,true,true,true,true,true,true,true,true,true,true,true,true,true,true,true,true,true,true,true,true,true,true,true,true,true,true,true,true,true,true,false,false] rfl rfl (one_of HT_.out (by kernel_rfl)) (by decide) (fun K hK=>?_)
             refine value_ (w1:=?_) (v:=?_) (by rfl) rfl ?_ ?_
             rotate_left 2
             ·
              go_simp
              constructor
              ·
               rfl
              ·
               rfl
             refine hK.out _ _ trivial (fun hHeld=>?_)
             clear hK K
             refine norm_ (a':=?_) ?_ ?_
             rotate_left
             ·
              show Act.put _ (some 44) _=_
              simp only [Act.put,List.setIfInBounds_toArray,List.set_cons_zero,List.set_cons_succ,i64_w,i32_w]
              rfl
             refine one_ (i:=31) (N:=some 45) #[true,true,true,true,true,true,true,true,true,true,true,true,true,true,true,true,true,true,true,true,true,true,true,true,true,true,true,true,true,true,true,true,false] rfl rfl (one_of HT_.out (by kernel_rfl)) (by decide) (fun K hK=>?_)
             refine Kd.R_append_step (Kd.int .u32) (w0:=w) w.heap.size (by rfl) (.tmp 14) (.tmp 44) 33 27 (.int .u32 0) 4 rfl Try.underlying33 info27 rfl (by decide) (by omega) u3 x3_1 ((((((((((bt a0 (ji3)) % 4294967296) * 16777216) % 4294967296)+((((bt a0 (ji7)) % 4294967296) * 65536) % 4294967296)) % 4294967296)+((((bt a0 (ji11)) % 4294967296) * 256) % 4294967296)) % 4294967296)+((bt a0 (ji15)) % 4294967296)) % 4294967296) [.int .u32 ((((((((((bt a0 (ji3)) % 4294967296) * 16777216) % 4294967296)+((((bt a0 (ji7)) % 4294967296) * 65536) % 4294967296)) % 4294967296)+((((bt a0 (ji11)) % 4294967296) * 256) % 4294967296)) % 4294967296)+((bt a0 (ji15)) % 4294967296)) % 4294967296)] (fun _=>True) (fun _=>False) rfl rfl ?aP (fun _ hk=>hk.elim) ?aF ?aO ?aB ?aS ?aL ?_
             (case aP=>exact rfl)
             (case aB=>exact (by repeat (first|(with_reducible first|exact HB.out|apply below_alloc|apply pw_below_drewN|apply below_drew1)|exact HB.out)))
             (case aF=>exact (fun _ _=>trivial))
             (case aO=>exact (by (with_reducible repeat (first|apply Kd.R_alloc|apply Kd.R_drewN|apply Kd.R_drew));exact HO_3.out))
             (case aS=>exact (below_size (by repeat (first|(with_reducible first|exact HB.out|apply below_alloc|apply pw_below_drewN|apply below_drew1)|exact HB.out))))
             (case aL=>have:=LMc19.out;omega)
             intro v132 w21 ho hb hg hat
             rw [← Ny131.out] at ho
             have n0_:=Aside0.mk (hb)
             have n1_:=Aside0.mk (ho)
             clear HB
             clear HO_3
             have HB:=n0_
             have HO133:=n1_
             clear n0_ n1_
             clear ho hb hg hat
             refine hK.out _ _ trivial (fun hHeld=>?_)
             clear hK K
             refine norm_ (a':=?_) ?_ ?_
             rotate_left
             ·
              show Act.put _ (some 45) _=_
              simp only [Act.put,List.setIfInBounds_toArray,List.set_cons_zero,List.set_cons_succ,i64_w,i32_w]
              rfl
             refine pure_ (i:=32) (N:=some 3) (v:=?_) (a':=?_) #[true,true,true,true,true,true,true,true,true,true,true,true,true,true,true,true,true,true,true,true,true,true,true,true,true,true,true,true,true,true,true,true,true] rfl rfl (any_of HT_.out (by kernel_rfl)) (fun _ _ _ h=>h) (Or.inl ⟨by rfl,?_⟩) ?_ ?_
             rotate_left
             ·
              intro w'
              go_simp
              with_reducible rfl
             rotate_left
             ·
              simp only [Act.put,List.setIfInBounds_toArray,List.set_cons_zero,List.set_cons_succ,i64_w,i32_w]
              rfl
             refine done_ (done_of HT_.out (by kernel_rfl)) ?_
             try go_wp2
             go_roundg k1
             case measure=>have:=HK1.out;omega
             case rel=>exact ⟨(y131),(wrap64 (x4_1+1)),(by first|rfl|(simp;done)|(simp [*];done)),H',⟨by have:=HK1.out;omega⟩,⟨by (with_reducible repeat (first|apply Kd.R_alloc|apply Kd.R_drewN|apply Kd.R_drew));exact HO133.out⟩,⟨by repeat (first|(with_reducible first|exact HB.out|apply below_alloc|apply pw_below_drewN|apply below_drew1)|exact HB.out)⟩⟩
            ·
             rw [if_neg c19] at H
             exact absurd H (by simp)
           ·
            rw [if_neg c17] at H
            exact absurd H (by simp)
          ·
           rw [if_neg c16] at H
           exact absurd H (by simp)
         ·
          rw [if_neg c13] at H
          exact absurd H (by simp)
        ·
         rw [if_neg c12] at H
         exact absurd H (by simp)
       ·
        rw [if_neg c9] at H
        exact absurd H (by simp)
      ·
       rw [if_neg c8] at H
       exact absurd H (by simp)
     ·
      rw [if_neg c5] at H
      exact absurd H (by simp)
    ·
     rw [if_neg c4] at H
     exact absurd H (by simp)
   ·
    rw [if_neg c2] at H
    have c2b0:decide (x4_1 < 16)=false:=decide_eq_false c2
    clear c2
    have H':=Aside0.mk H
    clear H
    go_wp2
    go_loopg [3,5] k1 (fun kq v3 v5 w'=>∃ (x3_2:List Int) (x5_2:Int),v5=.int .i64 x5_2∧Aside0 (mosaicref01_Words.l1 kq x3_2 x5_2=some r)∧Aside0 (kq≤k1)∧Aside0 (Kd.R (Kd.int .u32) 27 w' w.heap.size (fun _=>True) v3 x3_2)∧Aside0 (Below w.heap.size w w'))
    case atStart=>exact ⟨(x3_1),(16),(by first|rfl|(simp;done)|(simp [*];done)),H',⟨Nat.le_refl _⟩,⟨by (with_reducible repeat (first|apply Kd.R_alloc|apply Kd.R_drewN|apply Kd.R_drew));exact HO_3.out⟩,⟨by repeat (first|(with_reducible first|exact HB.out|apply below_alloc|apply pw_below_drewN|apply below_drew1)|exact HB.out)⟩⟩
    case round =>
     clear H'
     try clear c1
     try clear p1
     try clear q1
     try clear hx1
     try clear c2
     try clear c2b0
     try clear p2
     try clear c4
     try clear c4b0
     try clear c5
     try clear c5b0
     try clear p6
     try clear q6
     try clear hx6
     try clear c8
     try clear c8b0
     try clear c9
     try clear c9b0
     try clear p10
     try clear q10
     try clear hx10
     try clear c12
     try clear c12b0
     try clear c13
     try clear c13b0
     try clear p14
     try clear q14
     try clear hx14
     try clear c16
     try clear c16b0
     try clear c17
     try clear c17b0
     try clear p18
     try clear q18
     try clear hx18
     try clear c19
     try clear p10
     try clear p14
     try clear p18
     try clear p6
     try clear q10
     try clear q14
     try clear q18
     try clear q6
     obtain ⟨x3_2,x5_2,rfl,HA,HK2,HO_3,HB⟩:=hrel
     cases gk with
     | zero=>exact absurd HA.out (by simp [mosaicref01_Words.l1])
     | succ k2 =>
      have H:=HA.out
      clear HA
      simp only [mosaicref01_Words.l1] at H
      by_cases c22:x5_2 < 64
      ·
       rw [if_pos c22] at H
       have c22b0:decide (x5_2 < 64)=true:=decide_eq_true c22
       clear c22
       obtain ⟨ji23,hji23⟩:∃ j_:Int,(wrap64 (x5_2 - 15))=j_:=⟨_,rfl⟩
       replace H:(if 0≤(ji23) then (if (ji23) < (x3_2.length:Int) then (if 0≤(wrap64 (x5_2 - 2)) then (if (wrap64 (x5_2 - 2)) < (x3_2.length:Int) then ((mosaicref01_rotr.f (rd x3_2 (ji23)) 7).bind fun t136=>((mosaicref01_rotr.f (rd x3_2 (ji23)) 18).bind fun t137=>((mosaicref01_rotr.f (rd x3_2 (wrap64 (x5_2 - 2))) 17).bind fun t138=>((mosaicref01_rotr.f (rd x3_2 (wrap64 (x5_2 - 2))) 19).bind fun t139=>(if 0≤(wrap64 (x5_2 - 7)) then (if (wrap64 (x5_2 - 7)) < (x3_2.length:Int) then (if 0≤(wrap64 (x5_2 - 16)) then (if (wrap64 (x5_2 - 16)) < (x3_2.length:Int) then (if x3_2.length < 35184372088832 then (mosaicref01_Words.l1 k2 (x3_2 ++ [((((((Go.bits .xor .u32 (Go.bits .xor .u32 t138 t139) ((rd x3_2 (wrap64 (x5_2 - 2))) / 1024))+(rd x3_2 (wrap64 (x5_2 - 7)))) % 4294967296)+(Go.bits .xor .u32 (Go.bits .xor .u32 t136 t137) ((rd x3_2 (ji23)) / 8))) % 4294967296)+(rd x3_2 (wrap64 (x5_2 - 16)))) % 4294967296]) (wrap64 (x5_2+1))) else (none)) else (none)) else (none)) else (none)) else (none)))))) else (none)) else (none)) else (none)) else (none))=some r:=by first|(rw [hji23] at H;exact H)|(simp only [hji23] at H ⊢;exact H)
       have hji23w:(IntKind.i64.wrap (x5_2 - 15))=ji23:=(i64_w _).trans hji23
       by_cases c24:0≤(ji23)
       ·
        rw [if_pos c24] at H
        have c24b0:decide (0≤(ji23))=true:=decide_eq_true c24
        clear c24
        by_cases c25:(ji23) < (x3_2.length:Int)
        ·
         rw [if_pos c25] at H
         have c25b0:decide ((ji23) < (x3_2.length:Int))=true:=decide_eq_true c25
         clear c25
         obtain ⟨ji26,hji26⟩:∃ j_:Int,(wrap64 (x5_2 - 2))=j_:=⟨_,rfl⟩
         replace H:(if 0≤(ji26) then (if (ji26) < (x3_2.length:Int) then ((mosaicref01_rotr.f (rd x3_2 (ji23)) 7).bind fun t136=>((mosaicref01_rotr.f (rd x3_2 (ji23)) 18).bind fun t137=>((mosaicref01_rotr.f (rd x3_2 (ji26)) 17).bind fun t138=>((mosaicref01_rotr.f (rd x3_2 (ji26)) 19).bind fun t139=>(if 0≤(wrap64 (x5_2 - 7)) then (if (wrap64 (x5_2 - 7)) < (x3_2.length:Int) then (if 0≤(wrap64 (x5_2 - 16)) then (if (wrap64 (x5_2 - 16)) < (x3_2.length:Int) then (if x3_2.length < 35184372088832 then (mosaicref01_Words.l1 k2 (x3_2 ++ [((((((Go.bits .xor .u32 (Go.bits .xor .u32 t138 t139) ((rd x3_2 (ji26)) / 1024))+(rd x3_2 (wrap64 (x5_2 - 7)))) % 4294967296)+(Go.bits .xor .u32 (Go.bits .xor .u32 t136 t137) ((rd x3_2 (ji23)) / 8))) % 4294967296)+(rd x3_2 (wrap64 (x5_2 - 16)))) % 4294967296]) (wrap64 (x5_2+1))) else (none)) else (none)) else (none)) else (none)) else (none)))))) else (none)) else (none))=some r:=by first|(rw [hji26] at H;exact H)|(simp only [hji26] at H ⊢;exact H)
         have hji26w:(IntKind.i64.wrap (x5_2 - 2))=ji26:=(i64_w _).trans hji26
         by_cases c27:0≤(ji26)
         ·
          rw [if_pos c27] at H
          have c27b0:decide (0≤(ji26))=true:=decide_eq_true c27
          clear c27
          by_cases c28:(ji26) < (x3_2.length:Int)
          ·
           rw [if_pos c28] at H
           have c28b0:decide ((ji26) < (x3_2.length:Int))=true:=decide_eq_true c28
           clear c28
           replace H:=Option.bind_eq_some_iff.mp H
           obtain ⟨t136,A290,H⟩:=H
           replace H:((mosaicref01_rotr.f (rd x3_2 (ji23)) 18).bind fun t137=>((mosaicref01_rotr.f (rd x3_2 (ji26)) 17).bind fun t138=>((mosaicref01_rotr.f (rd x3_2 (ji26)) 19).bind fun t139=>(if 0≤(wrap64 (x5_2 - 7)) then (if (wrap64 (x5_2 - 7)) < (x3_2.length:Int) then (if 0≤(wrap64 (x5_2 - 16)) then (if (wrap64 (x5_2 - 16)) < (x3_2.length:Int) then (if x3_2.length < 35184372088832 then (mosaicref01_Words.l1 k2 (x3_2 ++ [((((((Go.bits .xor .u32 (Go.bits .xor .u32 t138 t139) ((rd x3_2 (ji26)) / 1024))+(rd x3_2 (wrap64 (x5_2 - 7)))) % 4294967296)+(Go.bits .xor .u32 (Go.bits .xor .u32 t136 t137) ((rd x3_2 (ji23)) / 8))) % 4294967296)+(rd x3_2 (wrap64 (x5_2 - 16)))) % 4294967296]) (wrap64 (x5_2+1))) else (none)) else (none)) else (none)) else (none)) else (none)))))=some r:=H
           have A29:=Aside0.mk A290
           clear A290
           replace H:=Option.bind_eq_some_iff.mp H
           obtain ⟨t137,A300,H⟩:=H
           replace H:((mosaicref01_rotr.f (rd x3_2 (ji26)) 17).bind fun t138=>((mosaicref01_rotr.f (rd x3_2 (ji26)) 19).bind fun t139=>(if 0≤(wrap64 (x5_2 - 7)) then (if (wrap64 (x5_2 - 7)) < (x3_2.length:Int) then (if 0≤(wrap64 (x5_2 - 16)) then (if (wrap64 (x5_2 - 16)) < (x3_2.length:Int) then (if x3_2.length < 35184372088832 then (mosaicref01_Words.l1 k2 (x3_2 ++ [((((((Go.bits .xor .u32 (Go.bits .xor .u32 t138 t139) ((rd x3_2 (ji26)) / 1024))+(rd x3_2 (wrap64 (x5_2 - 7)))) % 4294967296)+(Go.bits .xor .u32 (Go.bits .xor .u32 t136 t137) ((rd x3_2 (ji23)) / 8))) % 4294967296)+(rd x3_2 (wrap64 (x5_2 - 16)))) % 4294967296]) (wrap64 (x5_2+1))) else (none)) else (none)) else (none)) else (none)) else (none))))=some r:=H
           have A30:=Aside0.mk A300
           clear A300
           replace H:=Option.bind_eq_some_iff.mp H
           obtain ⟨t138,A310,H⟩:=H
           replace H:((mosaicref01_rotr.f (rd x3_2 (ji26)) 19).bind fun t139=>(if 0≤(wrap64 (x5_2 - 7)) then (if (wrap64 (x5_2 - 7)) < (x3_2.length:Int) then (if 0≤(wrap64 (x5_2 - 16)) then (if (wrap64 (x5_2 - 16)) < (x3_2.length:Int) then (if x3_2.length < 35184372088832 then (mosaicref01_Words.l1 k2 (x3_2 ++ [((((((Go.bits .xor .u32 (Go.bits .xor .u32 t138 t139) ((rd x3_2 (ji26)) / 1024))+(rd x3_2 (wrap64 (x5_2 - 7)))) % 4294967296)+(Go.bits .xor .u32 (Go.bits .xor .u32 t136 t137) ((rd x3_2 (ji23)) / 8))) % 4294967296)+(rd x3_2 (wrap64 (x5_2 - 16)))) % 4294967296]) (wrap64 (x5_2+1))) else (none)) else (none)) else (none)) else (none)) else (none)))=some r:=H
           have A31:=Aside0.mk A310
           clear A310
           replace H:=Option.bind_eq_some_iff.mp H
           obtain ⟨t139,A320,H⟩:=H
           replace H:(if 0≤(wrap64 (x5_2 - 7)) then (if (wrap64 (x5_2 - 7)) < (x3_2.length:Int) then (if 0≤(wrap64 (x5_2 - 16)) then (if (wrap64 (x5_2 - 16)) < (x3_2.length:Int) then (if x3_2.length < 35184372088832 then (mosaicref01_Words.l1 k2 (x3_2 ++ [((((((Go.bits .xor .u32 (Go.bits .xor .u32 t138 t139) ((rd x3_2 (ji26)) / 1024))+(rd x3_2 (wrap64 (x5_2 - 7)))) % 4294967296)+(Go.bits .xor .u32 (Go.bits .xor .u32 t136 t137) ((rd x3_2 (ji23)) / 8))) % 4294967296)+(rd x3_2 (wrap64 (x5_2 - 16)))) % 4294967296]) (wrap64 (x5_2+1))) else (none)) else (none)) else (none)) else (none)) else (none))=some r:=H
           have A32:=Aside0.mk A320
           clear A320
           obtain ⟨ji33,hji33⟩:∃ j_:Int,(wrap64 (x5_2 - 7))=j_:=⟨_,rfl⟩
           replace H:(if 0≤(ji33) then (if (ji33) < (x3_2.length:Int) then (if 0≤(wrap64 (x5_2 - 16)) then (if (wrap64 (x5_2 - 16)) < (x3_2.length:Int) then (if x3_2.length < 35184372088832 then (mosaicref01_Words.l1 k2 (x3_2 ++ [((((((Go.bits .xor .u32 (Go.bits .xor .u32 t138 t139) ((rd x3_2 (ji26)) / 1024))+(rd x3_2 (ji33))) % 4294967296)+(Go.bits .xor .u32 (Go.bits .xor .u32 t136 t137) ((rd x3_2 (ji23)) / 8))) % 4294967296)+(rd x3_2 (wrap64 (x5_2 - 16)))) % 4294967296]) (wrap64 (x5_2+1))) else (none)) else (none)) else (none)) else (none)) else (none))=some r:=by first|(rw [hji33] at H;exact H)|(simp only [hji33] at H ⊢;exact H)
           (try rw [hji33] at A29)
           (try rw [hji33] at A30)
           (try rw [hji33] at A31)
           (try rw [hji33] at A32)
           have hji33w:(IntKind.i64.wrap (x5_2 - 7))=ji33:=(i64_w _).trans hji33
           by_cases c34:0≤(ji33)
           ·
            rw [if_pos c34] at H
            have c34b0:decide (0≤(ji33))=true:=decide_eq_true c34
            clear c34
            by_cases c35:(ji33) < (x3_2.length:Int)
            ·
             rw [if_pos c35] at H
             have c35b0:decide ((ji33) < (x3_2.length:Int))=true:=decide_eq_true c35
             clear c35
             obtain ⟨ji36,hji36⟩:∃ j_:Int,(wrap64 (x5_2 - 16))=j_:=⟨_,rfl⟩
             replace H:(if 0≤(ji36) then (if (ji36) < (x3_2.length:Int) then (if x3_2.length < 35184372088832 then (mosaicref01_Words.l1 k2 (x3_2 ++ [((((((Go.bits .xor .u32 (Go.bits .xor .u32 t138 t139) ((rd x3_2 (ji26)) / 1024))+(rd x3_2 (ji33))) % 4294967296)+(Go.bits .xor .u32 (Go.bits .xor .u32 t136 t137) ((rd x3_2 (ji23)) / 8))) % 4294967296)+(rd x3_2 (ji36))) % 4294967296]) (wrap64 (x5_2+1))) else (none)) else (none)) else (none))=some r:=by first|(rw [hji36] at H;exact H)|(simp only [hji36] at H ⊢;exact H)
             (try rw [hji36] at A29)
             (try rw [hji36] at A30)
             (try rw [hji36] at A31)
             (try rw [hji36] at A32)
             have hji36w:(IntKind.i64.wrap (x5_2 - 16))=ji36:=(i64_w _).trans hji36
             by_cases c37:0≤(ji36)
             ·
              rw [if_pos c37] at H
              have c37b0:decide (0≤(ji36))=true:=decide_eq_true c37
              clear c37
              by_cases c38:(ji36) < (x3_2.length:Int)
              ·
               rw [if_pos c38] at H
               have c38b0:decide ((ji36) < (x3_2.length:Int))=true:=decide_eq_true c38
               clear c38
               by_cases c39:x3_2.length < 35184372088832
               ·
                rw [if_pos c39] at H
                have LMc39:=Aside0.mk c39
                clear c39
                obtain ⟨y142,hy142⟩:∃ y_:List Int,y_=(x3_2 ++ [((((((Go.bits .xor .u32 (Go.bits .xor .u32 t138 t139) ((rd x3_2 (ji26)) / 1024))+(rd x3_2 (ji33))) % 4294967296)+(Go.bits .xor .u32 (Go.bits .xor .u32 t136 t137) ((rd x3_2 (ji23)) / 8))) % 4294967296)+(rd x3_2 (ji36))) % 4294967296]):=⟨_,rfl⟩
                replace H:(mosaicref01_Words.l1 k2 y142 (wrap64 (x5_2+1)))=some r:=by first|(rw [hy142];with_reducible exact H)|(have H2_:=(Option.bind_some _ _).symm.trans H;rw [hy142];with_reducible exact H2_)|(have H2_:=(Option.bind_some _ _).symm.trans H;with_reducible exact H2_)|with_reducible exact H|(rw [hy142];exact H)|exact H
                have Ny142:=Aside0.mk hy142
                clear hy142
                have H':=Aside0.mk H
                clear H
                obtain ⟨Ao40,co40,eo40⟩:=Kd.R_slice HO_3.out
                subst eo40
                have p134:0≤((ji23):Int):=of_decide_eq_true (by first|(with_reducible assumption)|assumption)
                have q134:(ji23) < (x3_2.length:Int):=of_decide_eq_true (by first|(with_reducible assumption)|assumption)
                obtain ⟨ad134,e134,hx134_0⟩:=Kd.at_int (Kd.R_reads' HO_3.out).2.2 (ji23) p134 q134
                cases e134
                replace p134:=eq_true p134
                replace q134:=eq_true q134
                have p135:0≤((ji26):Int):=of_decide_eq_true (by first|(with_reducible assumption)|assumption)
                have q135:(ji26) < (x3_2.length:Int):=of_decide_eq_true (by first|(with_reducible assumption)|assumption)
                obtain ⟨ad135,e135,hx135_0⟩:=Kd.at_int (Kd.R_reads' HO_3.out).2.2 (ji26) p135 q135
                obtain rfl:ad134=ad135:=(by injection e135)
                replace p135:=eq_true p135
                replace q135:=eq_true q135
                try go_wp2_with (first|((with_reducible refine gate_callee (f:=86) rfl ?_);refine goesL_ (some 61) rfl rfl Try.func86 (by kernel_rfl) rfl #[.int .u32 (rd x3_2 (ji23)),.int .u64 7] rfl (by (try simp only [List.map_toArray,List.map_cons,List.map_nil]);first|done|(simp only [hji23];rfl)|rfl|(simp only [List.length_drop,List.length_take];rfl)) ?_;(with_reducible refine (mosaicref01_rotr.calls (rd x3_2 (ji23)) 7 t136 _ A29.out).mono ?_);rintro e w' ⟨rfl,⟨nd,rfl⟩⟩;refine ⟨_,rfl,?_⟩)|((with_reducible refine gate_callee (f:=86) rfl ?_);refine goesL_ (some 63) rfl rfl Try.func86 (by kernel_rfl) rfl #[.int .u32 (rd x3_2 (ji23)),.int .u64 18] rfl (by (try simp only [List.map_toArray,List.map_cons,List.map_nil]);first|done|(simp only [hji23];rfl)|rfl|(simp only [List.length_drop,List.length_take];rfl)) ?_;(with_reducible refine (mosaicref01_rotr.calls (rd x3_2 (ji23)) 18 t137 _ A30.out).mono ?_);rintro e w' ⟨rfl,⟨nd,rfl⟩⟩;refine ⟨_,rfl,?_⟩)|((with_reducible refine gate_callee (f:=86) rfl ?_);refine goesL_ (some 69) rfl rfl Try.func86 (by kernel_rfl) rfl #[.int .u32 (rd x3_2 (ji26)),.int .u64 17] rfl (by (try simp only [List.map_toArray,List.map_cons,List.map_nil]);first|done|(simp only [hji26];rfl)|rfl|(simp only [List.length_drop,List.length_take];rfl)) ?_;(with_reducible refine (mosaicref01_rotr.calls (rd x3_2 (ji26)) 17 t138 _ A31.out).mono ?_);rintro e w' ⟨rfl,⟨nd,rfl⟩⟩;refine ⟨_,rfl,?_⟩)|((with_reducible refine gate_callee (f:=86) rfl ?_);refine goesL_ (some 71) rfl rfl Try.func86 (by kernel_rfl) rfl #[.int .u32 (rd x3_2 (ji26)),.int .u64 19] rfl (by (try simp only [List.map_toArray,List.map_cons,List.map_nil]);first|done|(simp only [hji26];rfl)|rfl|(simp only [List.length_drop,List.length_take];rfl)) ?_;(with_reducible refine (mosaicref01_rotr.calls (rd x3_2 (ji26)) 19 t139 _ A32.out).mono ?_);rintro e w' ⟨rfl,⟨nd,rfl⟩⟩;refine ⟨_,rfl,?_⟩))
                (try (rw [drewN_self wr];generalize hq_:World.drewN wr _=wr;have n0_:Aside0 (Kd.R (Kd.int .u32) 27 wr w.heap.size (fun _=>True) (.slice (some ad134) x3_2.length co40) x3_2):=⟨by rw [← hq_];exact (by (with_reducible repeat (first|apply Kd.R_alloc|apply Kd.R_drewN|apply Kd.R_drew));exact HO_3.out)⟩;have n1_:Aside0 (Below w.heap.size w wr):=⟨by rw [← hq_];exact (by repeat (first|(with_reducible first|exact HB.out|apply below_alloc|apply pw_below_drewN|apply below_drew1)|exact HB.out))⟩;clear HO_3 HB hq_;have HO_3:=n0_;have HB:=n1_;clear n0_ n1_))
                have n0_:=Aside0.mk (Kd.R_drew HO_3.out)
                have n1_:=Aside0.mk (below_drew1 HB.out)
                clear HO_3
                clear HB
                have HO_3:=n0_
                have HB:=n1_
                clear n0_ n1_
                have p140:0≤((ji33):Int):=of_decide_eq_true (by first|(with_reducible assumption)|assumption)
                have q140:(ji33) < (x3_2.length:Int):=of_decide_eq_true (by first|(with_reducible assumption)|assumption)
                obtain ⟨ad140,e140,hx140_0⟩:=Kd.at_int (Kd.R_reads' HO_3.out).2.2 (ji33) p140 q140
                obtain rfl:ad134=ad140:=(by injection e140)
                replace p140:=eq_true p140
                replace q140:=eq_true q140
                have p141:0≤((ji36):Int):=of_decide_eq_true (by first|(with_reducible assumption)|assumption)
                have q141:(ji36) < (x3_2.length:Int):=of_decide_eq_true (by first|(with_reducible assumption)|assumption)
                obtain ⟨ad141,e141,hx141_0⟩:=Kd.at_int (Kd.R_reads' HO_3.out).2.2 (ji36) p141 q141
                obtain rfl:ad134=ad141:=(by injection e141)
                replace p141:=eq_true p141
                replace q141:=eq_true q141
                refine start_ (n:=19) (S:=fun w'=>w'.cell? (ad134.add ((ji33)).toNat)=some (.int .u32 (rd x3_2 (ji33)))∧w'.cell? (ad134.add ((ji36)).toNat)=some (.int .u32 (rd x3_2 (ji36)))) (ds:=[16,17]) #[false,false,false,false,false,false,false,false,false,false,false,false,false,false,false,false,false,false,false] (by kernel_rfl) rfl rfl ⟨hx140_0,hx141_0⟩ (fun hHeld=>?_);refine with_tabW mosaicref01_Words.tab13 mosaicref01_Words.bits13 (fun HT_ HW_=>?_)
                generalize wr.drew=w41 at HO_3 HB hx140_0 hx141_0 hHeld ⊢
                refine pure_ (i:=0) (N:=some 76) (v:=?_) (a':=?_) #[true,false,false,false,false,false,false,false,false,false,false,false,false,false,false,false,false,false,false] rfl rfl (any_of HT_.out (by kernel_rfl)) (fun _ _ _ h=>h) (Or.inl ⟨by rfl,?_⟩) ?_ ?_
                rotate_left
                ·
                 intro w'
                 go_simp
                 with_reducible rfl
                rotate_left
                ·
                 simp only [Act.put,List.setIfInBounds_toArray,List.set_cons_zero,List.set_cons_succ,i64_w,i32_w]
                 rfl
                refine pure_ (i:=1) (N:=some 77) (v:=?_) (a':=?_) #[true,true,false,false,false,false,false,false,false,false,false,false,false,false,false,false,false,false,false] rfl rfl (any_of HT_.out (by kernel_rfl)) (fun _ _ _ h=>h) (Or.inl ⟨by rfl,?_⟩) ?_ ?_
                rotate_left
                ·
                 intro w'
                 go_simp
                 with_reducible rfl
                rotate_left
                ·
                 simp only [Act.put,List.setIfInBounds_toArray,List.set_cons_zero,List.set_cons_succ,i64_w,i32_w]
                 rfl
                refine pure_ (i:=2) (N:=some 78) (v:=?_) (a':=?_) #[true,true,true,false,false,false,false,false,false,false,false,false,false,false,false,false,false,false,false] rfl rfl (any_of HT_.out (by kernel_rfl)) (fun _ _ _ h=>h) (Or.inl ⟨by rfl,?_⟩) ?_ ?_
                rotate_left
                ·
                 intro w'
                 go_simp
                 with_reducible rfl
                rotate_left
                ·
                 simp only [Act.put,List.setIfInBounds_toArray,List.set_cons_zero,List.set_cons_succ,i64_w,i32_w]
                 rfl
                refine pure_ (i:=3) (N:=some 79) (v:=?_) (a':=?_) #[true,true,true,true,false,false,false,false,false,false,false,false,false,false,false,false,false,false,false] rfl rfl (any_of HT_.out (by kernel_rfl)) (fun _ _ _ h=>h) (Or.inl ⟨by rfl,?_⟩) ?_ ?_
                rotate_left
                ·
                 intro w'
                 go_simp
                 with_reducible rfl
                rotate_left
                ·
                 simp only [Act.put,List.setIfInBounds_toArray,List.set_cons_zero,List.set_cons_succ,i64_w,i32_w]
                 rfl
                refine pure_ (i:=4) (N:=some 80) (v:=?_) (a':=?_) #[true,true,true,true,true,false,false,false,false,false,false,false,false,false,false,false,false,false,false] rfl rfl (any_of HT_.out (by kernel_rfl)) (fun _ _ _ h=>h) (Or.inl ⟨by rfl,?_⟩) ?_ ?_
                rotate_left
                ·
                 intro w'
                 go_simp
                 with_reducible rfl
                rotate_left
                ·
                 simp only [Act.put,List.setIfInBounds_toArray,List.set_cons_zero,List.set_cons_succ,i64_w,i32_w]
                 rfl
                refine pure_ (i:=5) (N:=some 81) (v:=?_) (a':=?_) #[true,true,true,true,true,true,false,false,false,false,false,false,false,false,false,false,false,false,false] rfl rfl (any_of HT_.out (by kernel_rfl)) (fun _ _ _ h=>h) (Or.inl ⟨by rfl,?_⟩) ?_ ?_
                rotate_left
                ·
                 intro w'
                 go_simp
                 with_reducible rfl
                rotate_left
                ·
                 simp only [Act.put,List.setIfInBounds_toArray,List.set_cons_zero,List.set_cons_succ,i64_w,i32_w]
                 rfl
                refine pure_ (i:=8) (N:=some 84) (v:=?_) (a':=?_) #[true,true,true,true,true,true,false,false,true,false,false,false,false,false,false,false,false,false,false] rfl rfl (any_of HT_.out (by kernel_rfl)) (fun _ _ _ h=>h) (Or.inl ⟨by rfl,?_⟩) ?_ ?_
                rotate_left
                ·
                 intro w'
                 go_simp
                 with_reducible rfl
                rotate_left
                ·
                 simp only [Act.put,List.setIfInBounds_toArray,List.set_cons_zero,List.set_cons_succ,i64_w,i32_w]
                 rfl
                refine pure_ (i:=10) (N:=some 86) (v:=?_) (a':=?_) #[true,true,true,true,true,true,false,false,true,false,true,false,false,false,false,false,false,false,false] rfl rfl (any_of HT_.out (by kernel_rfl)) (fun _ _ _ h=>h) (Or.inl ⟨by rfl,?_⟩) ?_ ?_
                rotate_left
                ·
                 intro w'
                 go_simp
                 with_reducible rfl
                rotate_left
                ·
                 simp only [Act.put,List.setIfInBounds_toArray,List.set_cons_zero,List.set_cons_succ,i64_w,i32_w]
                 rfl
                refine pure_ (i:=11) (N:=some 87) (v:=?_) (a':=?_) #[true,true,true,true,true,true,false,false,true,false,true,true,false,false,false,false,false,false,false] rfl rfl (any_of HT_.out (by kernel_rfl)) (fun _ _ _ h=>h) (Or.inl ⟨by rfl,?_⟩) ?_ ?_
                rotate_left
                ·
                 intro w'
                 go_simp
                 with_reducible rfl
                rotate_left
                ·
                 simp only [Act.put,List.setIfInBounds_toArray,List.set_cons_zero,List.set_cons_succ,i64_w,i32_w]
                 rfl
                refine pure_ (i:=12) (N:=some 88) (v:=?_) (a':=?_) #[true,true,true,true,true,true,false,false,true,false,true,true,true,false,false,false,false,false,false] rfl rfl (any_of HT_.out (by kernel_rfl)) (fun _ _ _ h=>h) (Or.inl ⟨by rfl,?_⟩) ?_ ?_
                rotate_left
                ·
                 intro w'
                 go_simp
                 with_reducible rfl
                rotate_left
                ·
                 simp only [Act.put,List.setIfInBounds_toArray,List.set_cons_zero,List.set_cons_succ,i64_w,i32_w]
                 rfl
                refine pure_ (i:=13) (N:=some 89) (v:=?_) (a':=?_) #[true,true,true,true,true,true,false,false,true,false,true,true,true,true,false,false,false,false,false] rfl rfl (any_of HT_.out (by kernel_rfl)) (fun _ _ _ h=>h) (Or.inl ⟨by rfl,?_⟩) ?_ ?_
                rotate_left
                ·
                 intro w'
                 go_simp
                 with_reducible rfl
                rotate_left
                ·
                 simp only [Act.put,List.setIfInBounds_toArray,List.set_cons_zero,List.set_cons_succ,i64_w,i32_w]
                 rfl
                refine take_ (i:=6) (N:=some 82) (v:=?_) (a':=?_) #[true,true,true,true,true,true,true,false,true,false,true,true,true,true,false,false,false,false,false] rfl rfl (take_ofW HT_.out HW_.out (by kernel_rfl)) (fun _ _ _ h=>h) (Or.inl ⟨by rfl,?_⟩) hHeld ?_ ?_
                rotate_left
                ·
                 rintro w' ⟨s0,s1⟩
                 go_simp
                 with_reducible rfl
                rotate_left
                ·
                 simp only [Act.put,List.setIfInBounds_toArray,List.set_cons_zero,List.set_cons_succ,i64_w,i32_w]
                 rfl
                refine pure_ (i:=7) (N:=some 83) (v:=?_) (a':=?_) #[true,true,true,true,true,true,true,true,true,false,true,true,true,true,false,false,false,false,false] rfl rfl (any_of HT_.out (by kernel_rfl)) (fun _ _ _ h=>h) (Or.inl ⟨by rfl,?_⟩) ?_ ?_
                rotate_left
                ·
                 intro w'
                 go_simp
                 with_reducible rfl
                rotate_left
                ·
                 simp only [Act.put,List.setIfInBounds_toArray,List.set_cons_zero,List.set_cons_succ,i64_w,i32_w]
                 rfl
                refine pure_ (i:=9) (N:=some 85) (v:=?_) (a':=?_) #[true,true,true,true,true,true,true,true,true,true,true,true,true,true,false,false,false,false,false] rfl rfl (any_of HT_.out (by kernel_rfl)) (fun _ _ _ h=>h) (Or.inl ⟨by rfl,?_⟩) ?_ ?_
                rotate_left
                ·
                 intro w'
                 go_simp
                 with_reducible rfl
                rotate_left
                ·
                 simp only [Act.put,List.setIfInBounds_toArray,List.set_cons_zero,List.set_cons_succ,i64_w,i32_w]
                 rfl
                refine take_ (i:=14) (N:=some 90) (v:=?_) (a':=?_) #[true,true,true,true,true,true,true,true,true,true,true,true,true,true,true,false,false,false,false] rfl rfl (take_ofW HT_.out HW_.out (by kernel_rfl)) (fun _ _ _ h=>h) (Or.inl ⟨by rfl,?_⟩) hHeld ?_ ?_
                rotate_left
                ·
                 rintro w' ⟨s0,s1⟩
                 go_simp
                 with_reducible rfl
                rotate_left
                ·
                 simp only [Act.put,List.setIfInBounds_toArray,List.set_cons_zero,List.set_cons_succ,i64_w,i32_w]
                 rfl
                refine pure_ (i:=15) (N:=some 91) (v:=?_) (a':=?_) #[true,true,true,true,true,true,true,true,true,true,true,true,true,true,true,true,false,false,false] rfl rfl (any_of HT_.out (by kernel_rfl)) (fun _ _ _ h=>h) (Or.inl ⟨by rfl,?_⟩) ?_ ?_
                rotate_left
                ·
                 intro w'
                 go_simp
                 with_reducible rfl
                rotate_left
                ·
                 simp only [Act.put,List.setIfInBounds_toArray,List.set_cons_zero,List.set_cons_succ,i64_w,i32_w]
                 rfl
                refine last_ (i:=16) (N:=some 92) #[true,true,true,true,true,true,true,true,true,true,true,true,true,true,true,true,true,false,false] rfl rfl (one_of HT_.out (by kernel_rfl)) (by decide) (fun K hK=>?_)
                refine value_ (w1:=?_) (v:=?_) (by rfl) rfl ?_ ?_
                rotate_left 2
                ·
                 go_simp
                 constructor
                 ·
                  rfl
                 ·
                  rfl
                refine hK.out _ _ ?_
                clear hK K
                refine norm_ (a':=?_) ?_ ?_
                rotate_left
                ·
                 show Act.put _ (some 92) _=_
                 simp only [Act.put,List.setIfInBounds_toArray,List.set_cons_zero,List.set_cons_succ,i64_w,i32_w]
                 rfl
                refine last_ (i:=17) (N:=some 93) #[true,true,true,true,true,true,true,true,true,true,true,true,true,true,true,true,true,true,false] rfl rfl (one_of HT_.out (by kernel_rfl)) (by decide) (fun K hK=>?_)
                refine Kd.R_append_step (Kd.int .u32) (w0:=w) w.heap.size (by rfl) (.tmp 76) (.tmp 92) 33 27 (.int .u32 0) 4 rfl Try.underlying33 info27 rfl (by decide) (by omega) (.slice (some ad134) x3_2.length co40) x3_2 (((((((Go.bits .xor .u32 (Go.bits .xor .u32 t138 t139) ((rd x3_2 (ji26)) / 1024))+(rd x3_2 (ji33))) % 4294967296)+(Go.bits .xor .u32 (Go.bits .xor .u32 t136 t137) ((rd x3_2 (ji23)) / 8))) % 4294967296)+(rd x3_2 (ji36))) % 4294967296) [.int .u32 (((((((Go.bits .xor .u32 (Go.bits .xor .u32 t138 t139) ((rd x3_2 (ji26)) / 1024))+(rd x3_2 (ji33))) % 4294967296)+(Go.bits .xor .u32 (Go.bits .xor .u32 t136 t137) ((rd x3_2 (ji23)) / 8))) % 4294967296)+(rd x3_2 (ji36))) % 4294967296)] (fun _=>True) (fun _=>False) rfl rfl ?aP (fun _ hk=>hk.elim) ?aF ?aO ?aB ?aS ?aL ?_
                (case aP=>exact rfl)
                (case aB=>exact (by repeat (first|(with_reducible first|exact HB.out|apply below_alloc|apply pw_below_drewN|apply below_drew1)|exact HB.out)))
                (case aF=>exact (fun _ _=>trivial))
                (case aO=>exact (by (with_reducible repeat (first|apply Kd.R_alloc|apply Kd.R_drewN|apply Kd.R_drew));exact HO_3.out))
                (case aS=>exact (below_size (by repeat (first|(with_reducible first|exact HB.out|apply below_alloc|apply pw_below_drewN|apply below_drew1)|exact HB.out))))
                (case aL=>have:=LMc39.out;omega)
                intro v143 w42 ho hb hg hat
                rw [← Ny142.out] at ho
                have n0_:=Aside0.mk (hb)
                have n1_:=Aside0.mk (ho)
                clear HB
                clear HO_3
                have HB:=n0_
                have HO144:=n1_
                clear n0_ n1_
                clear ho hb hg hat
                refine hK.out _ _ ?_
                clear hK K
                refine norm_ (a':=?_) ?_ ?_
                rotate_left
                ·
                 show Act.put _ (some 93) _=_
                 simp only [Act.put,List.setIfInBounds_toArray,List.set_cons_zero,List.set_cons_succ,i64_w,i32_w]
                 rfl
                refine pure_ (i:=18) (N:=some 3) (v:=?_) (a':=?_) #[true,true,true,true,true,true,true,true,true,true,true,true,true,true,true,true,true,true,true] rfl rfl (any_of HT_.out (by kernel_rfl)) (fun _ _ _ h=>h) (Or.inl ⟨by rfl,?_⟩) ?_ ?_
                rotate_left
                ·
                 intro w'
                 go_simp
                 with_reducible rfl
                rotate_left
                ·
                 simp only [Act.put,List.setIfInBounds_toArray,List.set_cons_zero,List.set_cons_succ,i64_w,i32_w]
                 rfl
                refine done_ (done_of HT_.out (by kernel_rfl)) ?_
                try go_wp2
                go_roundg k2
                case measure=>have:=HK1.out;have:=HK2.out;omega
                case rel=>exact ⟨(y142),(wrap64 (x5_2+1)),(by first|rfl|(simp;done)|(simp [*];done)),H',⟨by have:=HK1.out;have:=HK2.out;omega⟩,⟨by (with_reducible repeat (first|apply Kd.R_alloc|apply Kd.R_drewN|apply Kd.R_drew));exact HO144.out⟩,⟨by repeat (first|(with_reducible first|exact HB.out|apply below_alloc|apply pw_below_drewN|apply below_drew1)|exact HB.out)⟩⟩
               ·
                rw [if_neg c39] at H
                exact absurd H (by simp)
              ·
               rw [if_neg c38] at H
               exact absurd H (by simp)
             ·
              rw [if_neg c37] at H
              exact absurd H (by simp)
            ·
             rw [if_neg c35] at H
             exact absurd H (by simp)
           ·
            rw [if_neg c34] at H
            exact absurd H (by simp)
          ·
           rw [if_neg c28] at H
           exact absurd H (by simp)
         ·
          rw [if_neg c27] at H
          exact absurd H (by simp)
        ·
         rw [if_neg c25] at H
         exact absurd H (by simp)
       ·
        rw [if_neg c24] at H
        exact absurd H (by simp)
      ·
       rw [if_neg c22] at H
       have c22b0:decide (x5_2 < 64)=false:=decide_eq_false c22
       clear c22
       obtain rfl:=Option.some.inj H
       go_wp2
       go_ret
       exact ⟨_,by first|rfl|(simp [errW_none,errW_some] <;> rfl)|(simp [*,errW_none,errW_some] <;> rfl),by (with_reducible repeat (first|apply Kd.R_alloc|apply Kd.R_drewN|apply Kd.R_drew));exact HO_3.out,by repeat (first|(with_reducible first|exact HB.out|apply below_alloc|apply pw_below_drewN|apply below_drew1)|exact HB.out)⟩
end Go.Proofs.Ytelcaepenfjloaa.Print
/-! #### Pr32 -/
namespace Go.Proofs.Ytelcaepenfjloaa.Print
open Go.RowKit Go.Proofs.YtelcaepenfjloaaW.PrintWords Go.Proofs.YtelcaepenfjloaaW.PrintLast Go.Proofs.YtelcaepenfjloaaW.PrintMore
attribute [local go_sem] max2_int min2_int max_two min_two max_three min_three max_four min_four
set_option linter.unusedVariables false
set_option linter.unusedSimpArgs false
/-! ### mosaicref01_Mix: function 32 -/
def mosaicref01_Mix.l0:Nat→List Int→List Int→List Int→Int→Int→Int→Int→Int→Int→Int→Int→Int→Option (List Int)
 | 0,_,_,_,_,_,_,_,_,_,_,_,_=>none
 | k+1,x0,x5,x6,x7,x8,x9,x10,x11,x12,x13,x14,x15=>if x15 < 64 then ((mosaicref01_rotr.f x11 6).bind fun t173=>((mosaicref01_rotr.f x11 11).bind fun t174=>((mosaicref01_rotr.f x11 25).bind fun t175=>(if 0≤x15 then (if x15 < (x6.length:Int) then (if x15 < (x5.length:Int) then ((mosaicref01_rotr.f x7 2).bind fun t178=>((mosaicref01_rotr.f x7 13).bind fun t179=>((mosaicref01_rotr.f x7 22).bind fun t180=>(mosaicref01_Mix.l0 k x0 x5 x6 ((((((((((x14+(Go.bits .xor .u32 (Go.bits .xor .u32 t173 t174) t175)) % 4294967296)+(Go.bits .xor .u32 (Go.bits .and .u32 x11 x12) (Go.bits .and .u32 (Go.bits .xor .u32 4294967295 x11) x13))) % 4294967296)+(rd x6 x15)) % 4294967296)+(rd x5 x15)) % 4294967296)+(((Go.bits .xor .u32 (Go.bits .xor .u32 t178 t179) t180)+(Go.bits .xor .u32 (Go.bits .xor .u32 (Go.bits .and .u32 x7 x8) (Go.bits .and .u32 x7 x9)) (Go.bits .and .u32 x8 x9))) % 4294967296)) % 4294967296) x7 x8 x9 ((x10+((((((((x14+(Go.bits .xor .u32 (Go.bits .xor .u32 t173 t174) t175)) % 4294967296)+(Go.bits .xor .u32 (Go.bits .and .u32 x11 x12) (Go.bits .and .u32 (Go.bits .xor .u32 4294967295 x11) x13))) % 4294967296)+(rd x6 x15)) % 4294967296)+(rd x5 x15)) % 4294967296)) % 4294967296) x11 x12 x13 (wrap64 (x15+1)))))) else (none)) else (none)) else (none))))) else (if 0 < (x0.length:Int) then (if 1 < (x0.length:Int) then (if 2 < (x0.length:Int) then (if 3 < (x0.length:Int) then (if 4 < (x0.length:Int) then (if 5 < (x0.length:Int) then (if 6 < (x0.length:Int) then (if 7 < (x0.length:Int) then (some (([((rd x0 0)+x7) % 4294967296,((rd x0 1)+x8) % 4294967296,((rd x0 2)+x9) % 4294967296,((rd x0 3)+x10) % 4294967296,((rd x0 4)+x11) % 4294967296,((rd x0 5)+x12) % 4294967296,((rd x0 6)+x13) % 4294967296,((rd x0 7)+x14) % 4294967296]:List Int))) else (none)) else (none)) else (none)) else (none)) else (none)) else (none)) else (none)) else (none))
def mosaicref01_Mix.f (k:Nat) (l0:List Int) (a1:ByteArray):Option (List Int):=(mosaicref01_Words.f k a1).bind fun t148=>((mosaicref01_K.f).bind fun t151=>(if 0 < (l0.length:Int) then (if 1 < (l0.length:Int) then (if 2 < (l0.length:Int) then (if 3 < (l0.length:Int) then (if 4 < (l0.length:Int) then (if 5 < (l0.length:Int) then (if 6 < (l0.length:Int) then (if 7 < (l0.length:Int) then (mosaicref01_Mix.l0 k l0 t148 t151 (rd l0 0) (rd l0 1) (rd l0 2) (rd l0 3) (rd l0 4) (rd l0 5) (rd l0 6) (rd l0 7) 0) else (none)) else (none)) else (none)) else (none)) else (none)) else (none)) else (none)) else (none)))
theorem mosaicref01_Mix.mono_l:∀ k,(∀ y0 y1 y2 y3 y4 y5 y6 y7 y8 y9 y10 y11,LeO (mosaicref01_Mix.l0 k y0 y1 y2 y3 y4 y5 y6 y7 y8 y9 y10 y11) (mosaicref01_Mix.l0 (k+1) y0 y1 y2 y3 y4 y5 y6 y7 y8 y9 y10 y11))
 | 0=>fun _ _ _ _ _ _ _ _ _ _ _ _ r h=>by simp [mosaicref01_Mix.l0] at h
 | k+1=>by
  have ih0:=mosaicref01_Mix.mono_l k
  ·
   intro y0 y1 y2 y3 y4 y5 y6 y7 y8 y9 y10 y11
   unfold mosaicref01_Mix.l0
   repeat' first
   | (with_reducible exact ih0 _ _ _ _ _ _ _ _ _ _ _ _)
   | (with_reducible exact mosaicref01_Words.mono _ _)
   | (with_reducible exact LeO.refl _)
   | (with_reducible exact LeO.none _)
   | (with_reducible refine LeO.ite ?_ ?_)
   | (with_reducible refine LeO.bind ?_ (fun _=>?_))
   | exact ih0 _ _ _ _ _ _ _ _ _ _ _ _
   | exact mosaicref01_Words.mono _ _
   | exact LeO.none _
   | refine LeO.ite ?_ ?_
   | refine LeO.bind ?_ (fun _=>?_)
theorem mosaicref01_Mix.mono:∀ a0 a1 k,LeO (mosaicref01_Mix.f k a0 a1) (mosaicref01_Mix.f (k+1) a0 a1):=by
 intro a0 a1 k
 have ih0:=mosaicref01_Mix.mono_l k
 unfold mosaicref01_Mix.f
 repeat' first
   | (with_reducible exact ih0 _ _ _ _ _ _ _ _ _ _ _ _)
   | (with_reducible exact mosaicref01_Words.mono _ _)
   | (with_reducible exact LeO.refl _)
   | (with_reducible exact LeO.none _)
   | (with_reducible refine LeO.ite ?_ ?_)
   | (with_reducible refine LeO.bind ?_ (fun _=>?_))
   | exact ih0 _ _ _ _ _ _ _ _ _ _ _ _
   | exact mosaicref01_Words.mono _ _
   | exact LeO.none _
   | refine LeO.ite ?_ ?_
   | refine LeO.bind ?_ (fun _=>?_)
def mosaicref01_Mix.T3:Bool×List (List Nat×List Nat):=(true,[([],[]),([0],[0]),([1],[1]),([],[]),([3],[3]),([4],[4]),([],[]),([6],[6]),([7],[7]),([],[]),([9],[9]),([10],[10]),([2,0,1,2],[2]),([5,12,0,1,2,3,4,5,12],[5]),([8,13,0,1,2,3,4,5,6,7,8,12,13],[8]),([11,14,0,1,2,3,4,5,6,7,8,9,10,11,12,13,14],[11])])
def mosaicref01_Mix.B3:List Nat:=[0,1,3,0,8,24,0,64,192,0,512,1536,7,4159,12799,32767]
theorem mosaicref01_Mix.tab3:rtab .any (opsOf Try.f32 3)=mosaicref01_Mix.T3:=by kernel_rfl
theorem mosaicref01_Mix.bits3:waitsOk mosaicref01_Mix.T3.2 mosaicref01_Mix.B3=true:=by kernel_rfl
def mosaicref01_Mix.T4:Bool×List (List Nat×List Nat):=(true,[([],[]),([0],[0]),([1],[1]),([],[]),([3],[3]),([4],[4]),([],[]),([6],[6]),([7],[7]),([],[]),([9],[9]),([10],[10]),([2,0,1,2],[2]),([5,12,0,1,2,3,4,5,12],[5]),([8,13,0,1,2,3,4,5,6,7,8,12,13],[8]),([11,14,0,1,2,3,4,5,6,7,8,9,10,11,12,13,14],[11])])
def mosaicref01_Mix.B4:List Nat:=[0,1,3,0,8,24,0,64,192,0,512,1536,7,4159,12799,32767]
theorem mosaicref01_Mix.tab4:rtab .any (opsOf Try.f32 4)=mosaicref01_Mix.T4:=by kernel_rfl
theorem mosaicref01_Mix.bits4:waitsOk mosaicref01_Mix.T4.2 mosaicref01_Mix.B4=true:=by kernel_rfl
def mosaicref01_Mix.T8:Bool×List (List Nat×List Nat):=(true,[([],[]),([],[]),([1],[1]),([],[]),([3,2],[3]),([2,4],[2,4]),([],[]),([6,4],[6]),([5,7],[5,7]),([0,8],[0,8]),([],[]),([],[]),([10,11],[10,11]),([],[]),([13],[13]),([],[]),([14,15],[14,15]),([12,16],[12,16]),([9,17],[9,17]),([],[]),([],[]),([19,20],[19,20]),([21],[21]),([18,22],[18,22]),([],[]),([],[]),([24,25],[24,25]),([26],[26]),([23,27],[23,27]),([28,7,0,1,2,3,4,5,6,7,8,9,10,11,12,13,14,15,16,17,18,19,20,21,22,23,24,25,26,27,28],[28])])
def mosaicref01_Mix.B8:List Nat:=[0,0,2,0,14,30,0,94,254,511,0,0,3072,0,8192,0,57344,130048,262143,0,0,1572864,3670016,8388607,0,0,50331648,117440512,268435455,536870911]
theorem mosaicref01_Mix.tab8:rtab .any (opsOf Try.f32 8)=mosaicref01_Mix.T8:=by kernel_rfl
theorem mosaicref01_Mix.bits8:waitsOk mosaicref01_Mix.T8.2 mosaicref01_Mix.B8=true:=by kernel_rfl
def mosaicref01_Mix.T18:Bool×List (List Nat×List Nat):=(true,[([],[]),([0],[0]),([1],[1]),([],[]),([2,3],[2,3]),([],[]),([5],[5]),([6],[6]),([],[]),([7,8],[7,8]),([],[]),([10],[10]),([11],[11]),([],[]),([12,13],[12,13]),([],[]),([15],[15]),([16],[16]),([],[]),([17,18],[17,18]),([],[]),([20],[20]),([21],[21]),([],[]),([22,23],[22,23]),([],[]),([25],[25]),([26],[26]),([],[]),([27,28],[27,28]),([],[]),([30],[30]),([31],[31]),([],[]),([32,33],[32,33]),([],[]),([35],[35]),([36],[36]),([],[]),([37,38],[37,38]),([4,9,14,19,24,29,34,39],[4,9,14,19,24,29,34,39]),([40,0,1,2,3,4,5,6,7,8,9,10,11,12,13,14,15,16,17,18,19,20,21,22,23,24,25,26,27,28,29,30,31,32,33,34,35,36,37,38,39,40],[40])])
def mosaicref01_Mix.B18:List Nat:=[0,1,3,0,15,0,32,96,0,480,0,1024,3072,0,15360,0,32768,98304,0,491520,0,1048576,3145728,0,15728640,0,33554432,100663296,0,503316480,0,1073741824,3221225472,0,16106127360,0,34359738368,103079215104,0,515396075520,1099511627775,2199023255551]
theorem mosaicref01_Mix.tab18:rtab .any (opsOf Try.f32 18)=mosaicref01_Mix.T18:=by kernel_rfl
theorem mosaicref01_Mix.bits18:waitsOk mosaicref01_Mix.T18.2 mosaicref01_Mix.B18=true:=by kernel_rfl
set_option maxHeartbeats 8000000 in
set_option maxRecDepth 100000 in
theorem mosaicref01_Mix.calls (k:Nat) (A0:Option Addr) (c0:Nat) (l0:List Int) (a1:ByteArray) (r:List Int) (w:World) (hr0:Kd.C (Kd.int .u32) w A0 l0.length l0) (hc0:l0.length≤c0) (h:mosaicref01_Mix.f k l0 a1=some r) :
  Calls Try.prog 32 #[.slice A0 l0.length c0,.string a1] w fun e w'=>∃ v0_:Value,e=.returned (v0_)∧Kd.R (Kd.int .u32) 27 w' w.heap.size (fun _=>True) v0_ r∧Below w.heap.size w w':=by
 have HR0:=Aside0.mk hr0
 have HC0:=Aside0.mk hc0
 clear hr0 hc0
 have HB:=Aside0.mk (Below.refl w.heap.size w)
 have H:((mosaicref01_Words.f k a1).bind fun t148=>((mosaicref01_K.f).bind fun t151=>(if 0 < (l0.length:Int) then (if 1 < (l0.length:Int) then (if 2 < (l0.length:Int) then (if 3 < (l0.length:Int) then (if 4 < (l0.length:Int) then (if 5 < (l0.length:Int) then (if 6 < (l0.length:Int) then (if 7 < (l0.length:Int) then (mosaicref01_Mix.l0 k l0 t148 t151 (rd l0 0) (rd l0 1) (rd l0 2) (rd l0 3) (rd l0 4) (rd l0 5) (rd l0 6) (rd l0 7) 0) else (none)) else (none)) else (none)) else (none)) else (none)) else (none)) else (none)) else (none))))=some r:=h
 clear h
 replace H:=Option.bind_eq_some_iff.mp H
 obtain ⟨t148,A30,H⟩:=H
 replace H:((mosaicref01_K.f).bind fun t151=>(if 0 < (l0.length:Int) then (if 1 < (l0.length:Int) then (if 2 < (l0.length:Int) then (if 3 < (l0.length:Int) then (if 4 < (l0.length:Int) then (if 5 < (l0.length:Int) then (if 6 < (l0.length:Int) then (if 7 < (l0.length:Int) then (mosaicref01_Mix.l0 k l0 t148 t151 (rd l0 0) (rd l0 1) (rd l0 2) (rd l0 3) (rd l0 4) (rd l0 5) (rd l0 6) (rd l0 7) 0) else (none)) else (none)) else (none)) else (none)) else (none)) else (none)) else (none)) else (none)))=some r:=H
 have A3:=Aside0.mk A30
 clear A30
 replace H:=Option.bind_eq_some_iff.mp H
 obtain ⟨t151,A40,H⟩:=H
 replace H:(if 0 < (l0.length:Int) then (if 1 < (l0.length:Int) then (if 2 < (l0.length:Int) then (if 3 < (l0.length:Int) then (if 4 < (l0.length:Int) then (if 5 < (l0.length:Int) then (if 6 < (l0.length:Int) then (if 7 < (l0.length:Int) then (mosaicref01_Mix.l0 k l0 t148 t151 (rd l0 0) (rd l0 1) (rd l0 2) (rd l0 3) (rd l0 4) (rd l0 5) (rd l0 6) (rd l0 7) 0) else (none)) else (none)) else (none)) else (none)) else (none)) else (none)) else (none)) else (none))=some r:=H
 have A4:=Aside0.mk A40
 clear A40
 by_cases c5:0 < (l0.length:Int)
 ·
  rw [if_pos c5] at H
  have c5b0:decide (0 < (l0.length:Int))=true:=decide_eq_true c5
  have c5b1:decide (0 < l0.length)=true:=decide_eq_true (by omega)
  clear c5
  by_cases c6:1 < (l0.length:Int)
  ·
   rw [if_pos c6] at H
   have c6b0:decide (1 < (l0.length:Int))=true:=decide_eq_true c6
   have c6b1:decide (1 < l0.length)=true:=decide_eq_true (by omega)
   clear c6
   by_cases c7:2 < (l0.length:Int)
   ·
    rw [if_pos c7] at H
    have c7b0:decide (2 < (l0.length:Int))=true:=decide_eq_true c7
    have c7b1:decide (2 < l0.length)=true:=decide_eq_true (by omega)
    clear c7
    by_cases c8:3 < (l0.length:Int)
    ·
     rw [if_pos c8] at H
     have c8b0:decide (3 < (l0.length:Int))=true:=decide_eq_true c8
     have c8b1:decide (3 < l0.length)=true:=decide_eq_true (by omega)
     clear c8
     by_cases c9:4 < (l0.length:Int)
     ·
      rw [if_pos c9] at H
      have c9b0:decide (4 < (l0.length:Int))=true:=decide_eq_true c9
      have c9b1:decide (4 < l0.length)=true:=decide_eq_true (by omega)
      clear c9
      by_cases c10:5 < (l0.length:Int)
      ·
       rw [if_pos c10] at H
       have c10b0:decide (5 < (l0.length:Int))=true:=decide_eq_true c10
       have c10b1:decide (5 < l0.length)=true:=decide_eq_true (by omega)
       clear c10
       by_cases c11:6 < (l0.length:Int)
       ·
        rw [if_pos c11] at H
        have c11b0:decide (6 < (l0.length:Int))=true:=decide_eq_true c11
        have c11b1:decide (6 < l0.length)=true:=decide_eq_true (by omega)
        clear c11
        by_cases c12:7 < (l0.length:Int)
        ·
         rw [if_pos c12] at H
         have c12b0:decide (7 < (l0.length:Int))=true:=decide_eq_true c12
         have c12b1:decide (7 < l0.length)=true:=decide_eq_true (by omega)
         clear c12
         have H':=Aside0.mk H
         clear H
         go_enter Try.func32,Try.ntmps32
         try go_wp2_with (first|((with_reducible refine gate_callee (f:=84) rfl ?_);refine goesL_ (some 19) rfl rfl Try.func84 (by kernel_rfl) rfl #[.string a1] rfl (by (try simp only [List.map_toArray,List.map_cons,List.map_nil]);first|done|rfl|(simp only [List.length_drop,List.length_take];rfl)) ?_;(with_reducible refine (mosaicref01_Words.calls k a1 t148 _ A3.out).mono ?_);rintro e w13 ⟨v149,rfl,ho0,hb⟩;refine ⟨_,rfl,?_⟩;have n0_:=Aside0.mk (Kd.R_lower ho0 (below_size (by repeat (first|(with_reducible first|exact HB.out|apply below_alloc|apply pw_below_drewN|apply below_drew1)|exact HB.out))));have n1_:=Aside0.mk (below_step (by repeat (first|(with_reducible first|exact HB.out|apply below_alloc|apply pw_below_drewN|apply below_drew1)|exact HB.out)) hb);clear HB;have HO150:=n0_;have HB:=n1_;clear n0_ n1_;(try clear hb);(try clear hb2);(try clear hk);(try clear hi);(try clear ho0))|((with_reducible refine gate_callee (f:=85) rfl ?_);refine goesL_ (some 20) rfl rfl Try.func85 (by kernel_rfl) rfl #[] rfl (by (try simp only [List.map_toArray,List.map_cons,List.map_nil]);first|done|rfl|(simp only [List.length_drop,List.length_take];rfl)) ?_;(with_reducible refine (mosaicref01_K.calls  t151 _ A4.out).mono ?_);rintro e w14 ⟨v152,rfl,ho0,hb⟩;refine ⟨_,rfl,?_⟩;have n0_:=Aside0.mk (Kd.R_elder' (by (with_reducible repeat (first|apply Kd.R_alloc|apply Kd.R_drewN|apply Kd.R_drew));exact HO150.out) (Kd.R_base ho0) hb);have n1_:=Aside0.mk (Kd.R_lower (Kd.R_new' ho0 (Kd.R_lt (by (with_reducible repeat (first|apply Kd.R_alloc|apply Kd.R_drewN|apply Kd.R_drew));exact HO150.out))) (below_size (by repeat (first|(with_reducible first|exact HB.out|apply below_alloc|apply pw_below_drewN|apply below_drew1)|exact HB.out))));have n2_:=Aside0.mk (below_step (by repeat (first|(with_reducible first|exact HB.out|apply below_alloc|apply pw_below_drewN|apply below_drew1)|exact HB.out)) hb);clear HO150;clear HB;have HO150:=n0_;have HO153:=n1_;have HB:=n2_;clear n0_ n1_ n2_;(try clear hb);(try clear hb2);(try clear hk);(try clear hi);(try clear ho0)))
         have n0_:=Aside0.mk (Kd.R_drew HO150.out)
         have n1_:=Aside0.mk (Kd.R_drew HO153.out)
         have n2_:=Aside0.mk (below_drew1 HB.out)
         clear HO150
         clear HO153
         clear HB
         have HO150:=n0_
         have HO153:=n1_
         have HB:=n2_
         clear n0_ n1_ n2_
         have p154:0≤(0:Int):=(by omega)
         have q154:0 < (l0.length:Int):=of_decide_eq_true (by first|(with_reducible assumption)|assumption)
         obtain ⟨ad154,e154,hx154_0⟩:=Kd.at_int HR0.out 0 p154 q154
         have hw154_0:=hx154_0
         (try rw [show ((0:Int)).toNat=0 from rfl] at hw154_0)
         (try rw [show 0 * 1=0 from rfl] at hw154_0)
         (try rw [Addr.add_zero'] at hw154_0)
         cases e154
         have qi154:(0 < l0.length)=True:=eq_true (by omega)
         (try rw [show ((0:Int)).toNat=0 from rfl] at hx154_0)
         (try rw [Addr.add_zero'] at hx154_0)
         replace hx154_0:=(HB.out.cell (World.block_lt_of_cell? w _ hx154_0)).trans hx154_0
         replace p154:=eq_true p154
         replace q154:=eq_true q154
         have p155:0≤(1:Int):=(by omega)
         have q155:1 < (l0.length:Int):=of_decide_eq_true (by first|(with_reducible assumption)|assumption)
         obtain ⟨ad155,e155,hx155_0⟩:=Kd.at_int HR0.out 1 p155 q155
         have hw155_0:=hx155_0
         (try rw [show ((1:Int)).toNat=1 from rfl] at hw155_0)
         (try rw [show 1 * 1=1 from rfl] at hw155_0)
         (try simp only [Nat.reduceMul,Nat.reduceEqDiff,Go.Addr.add,↓reduceIte] at hw155_0)
         obtain rfl:ad154=ad155:=(by injection e155)
         (try simp only [show (1:Int).toNat=1 from rfl,Nat.reduceMul,Nat.reduceEqDiff,Go.Addr.add,↓reduceIte] at hx155_0)
         have qi155:(1 < l0.length)=True:=eq_true (by omega)
         (try rw [show ((1:Int)).toNat=1 from rfl] at hx155_0)
         replace hx155_0:=(HB.out.cell (World.block_lt_of_cell? w _ hx155_0)).trans hx155_0
         replace p155:=eq_true p155
         replace q155:=eq_true q155
         have p156:0≤(2:Int):=(by omega)
         have q156:2 < (l0.length:Int):=of_decide_eq_true (by first|(with_reducible assumption)|assumption)
         obtain ⟨ad156,e156,hx156_0⟩:=Kd.at_int HR0.out 2 p156 q156
         have hw156_0:=hx156_0
         (try rw [show ((2:Int)).toNat=2 from rfl] at hw156_0)
         (try rw [show 2 * 1=2 from rfl] at hw156_0)
         (try simp only [Nat.reduceMul,Nat.reduceEqDiff,Go.Addr.add,↓reduceIte] at hw156_0)
         obtain rfl:ad154=ad156:=(by injection e156)
         (try simp only [show (2:Int).toNat=2 from rfl,Nat.reduceMul,Nat.reduceEqDiff,Go.Addr.add,↓reduceIte] at hx156_0)
         have qi156:(2 < l0.length)=True:=eq_true (by omega)
         (try rw [show ((2:Int)).toNat=2 from rfl] at hx156_0)
         replace hx156_0:=(HB.out.cell (World.block_lt_of_cell? w _ hx156_0)).trans hx156_0
         replace p156:=eq_true p156
         replace q156:=eq_true q156
         have p157:0≤(3:Int):=(by omega)
         have q157:3 < (l0.length:Int):=of_decide_eq_true (by first|(with_reducible assumption)|assumption)
         obtain ⟨ad157,e157,hx157_0⟩:=Kd.at_int HR0.out 3 p157 q157
         have hw157_0:=hx157_0
         (try rw [show ((3:Int)).toNat=3 from rfl] at hw157_0)
         (try rw [show 3 * 1=3 from rfl] at hw157_0)
         (try simp only [Nat.reduceMul,Nat.reduceEqDiff,Go.Addr.add,↓reduceIte] at hw157_0)
         obtain rfl:ad154=ad157:=(by injection e157)
         (try simp only [show (3:Int).toNat=3 from rfl,Nat.reduceMul,Nat.reduceEqDiff,Go.Addr.add,↓reduceIte] at hx157_0)
         have qi157:(3 < l0.length)=True:=eq_true (by omega)
         (try rw [show ((3:Int)).toNat=3 from rfl] at hx157_0)
         replace hx157_0:=(HB.out.cell (World.block_lt_of_cell? w _ hx157_0)).trans hx157_0
         replace p157:=eq_true p157
         replace q157:=eq_true q157
         refine start_ (n:=16) (S:=fun w'=>w'.cell? ad154=some (.int .u32 (rd l0 0))∧w'.cell? ⟨ad154.block,ad154.off+1,none⟩=some (.int .u32 (rd l0 1))∧w'.cell? ⟨ad154.block,ad154.off+2,none⟩=some (.int .u32 (rd l0 2))∧w'.cell? ⟨ad154.block,ad154.off+3,none⟩=some (.int .u32 (rd l0 3))) (ds:=[]) #[false,false,false,false,false,false,false,false,false,false,false,false,false,false,false,false] (by kernel_rfl) rfl rfl ⟨((HB.out.cell (World.block_lt_of_cell? w _ hw154_0)).trans hw154_0),((HB.out.cell (World.block_lt_of_cell? w _ hw155_0)).trans hw155_0),((HB.out.cell (World.block_lt_of_cell? w _ hw156_0)).trans hw156_0),((HB.out.cell (World.block_lt_of_cell? w _ hw157_0)).trans hw157_0)⟩ (fun hHeld=>?_);refine with_tabW mosaicref01_Mix.tab3 mosaicref01_Mix.bits3 (fun HT_ HW_=>?_)
         generalize w14.drew=w15 at HO150 HO153 HB hx154_0 hx155_0 hx156_0 hx157_0 hHeld ⊢
         refine pure_ (i:=0) (N:=some 21) (v:=?_) (a':=?_) #[true,false,false,false,false,false,false,false,false,false,false,false,false,false,false,false] rfl rfl (any_of HT_.out (by kernel_rfl)) (fun _ _ _ h=>h) (Or.inl ⟨by rfl,?_⟩) ?_ ?_
         rotate_left
         ·
          intro w'
          go_simp
          with_reducible rfl
         rotate_left
         ·
          simp only [Act.put,List.setIfInBounds_toArray,List.set_cons_zero,List.set_cons_succ,i64_w,i32_w]
          rfl
         refine pure_ (i:=1) (N:=some 22) (v:=?_) (a':=?_) #[true,true,false,false,false,false,false,false,false,false,false,false,false,false,false,false] rfl rfl (any_of HT_.out (by kernel_rfl)) (fun _ _ _ h=>h) (Or.inl ⟨by rfl,?_⟩) ?_ ?_
         rotate_left
         ·
          intro w'
          go_simp
          with_reducible rfl
         rotate_left
         ·
          simp only [Act.put,List.setIfInBounds_toArray,List.set_cons_zero,List.set_cons_succ,i64_w,i32_w]
          rfl
         refine pure_ (i:=3) (N:=some 24) (v:=?_) (a':=?_) #[true,true,false,true,false,false,false,false,false,false,false,false,false,false,false,false] rfl rfl (any_of HT_.out (by kernel_rfl)) (fun _ _ _ h=>h) (Or.inl ⟨by rfl,?_⟩) ?_ ?_
         rotate_left
         ·
          intro w'
          go_simp
          with_reducible rfl
         rotate_left
         ·
          simp only [Act.put,List.setIfInBounds_toArray,List.set_cons_zero,List.set_cons_succ,i64_w,i32_w]
          rfl
         refine pure_ (i:=4) (N:=some 25) (v:=?_) (a':=?_) #[true,true,false,true,true,false,false,false,false,false,false,false,false,false,false,false] rfl rfl (any_of HT_.out (by kernel_rfl)) (fun _ _ _ h=>h) (Or.inl ⟨by rfl,?_⟩) ?_ ?_
         rotate_left
         ·
          intro w'
          go_simp
          with_reducible rfl
         rotate_left
         ·
          simp only [Act.put,List.setIfInBounds_toArray,List.set_cons_zero,List.set_cons_succ,i64_w,i32_w]
          rfl
         refine pure_ (i:=6) (N:=some 27) (v:=?_) (a':=?_) #[true,true,false,true,true,false,true,false,false,false,false,false,false,false,false,false] rfl rfl (any_of HT_.out (by kernel_rfl)) (fun _ _ _ h=>h) (Or.inl ⟨by rfl,?_⟩) ?_ ?_
         rotate_left
         ·
          intro w'
          go_simp
          with_reducible rfl
         rotate_left
         ·
          simp only [Act.put,List.setIfInBounds_toArray,List.set_cons_zero,List.set_cons_succ,i64_w,i32_w]
          rfl
         refine pure_ (i:=7) (N:=some 28) (v:=?_) (a':=?_) #[true,true,false,true,true,false,true,true,false,false,false,false,false,false,false,false] rfl rfl (any_of HT_.out (by kernel_rfl)) (fun _ _ _ h=>h) (Or.inl ⟨by rfl,?_⟩) ?_ ?_
         rotate_left
         ·
          intro w'
          go_simp
          with_reducible rfl
         rotate_left
         ·
          simp only [Act.put,List.setIfInBounds_toArray,List.set_cons_zero,List.set_cons_succ,i64_w,i32_w]
          rfl
         refine pure_ (i:=9) (N:=some 30) (v:=?_) (a':=?_) #[true,true,false,true,true,false,true,true,false,true,false,false,false,false,false,false] rfl rfl (any_of HT_.out (by kernel_rfl)) (fun _ _ _ h=>h) (Or.inl ⟨by rfl,?_⟩) ?_ ?_
         rotate_left
         ·
          intro w'
          go_simp
          with_reducible rfl
         rotate_left
         ·
          simp only [Act.put,List.setIfInBounds_toArray,List.set_cons_zero,List.set_cons_succ,i64_w,i32_w]
          rfl
         refine pure_ (i:=10) (N:=some 31) (v:=?_) (a':=?_) #[true,true,false,true,true,false,true,true,false,true,true,false,false,false,false,false] rfl rfl (any_of HT_.out (by kernel_rfl)) (fun _ _ _ h=>h) (Or.inl ⟨by rfl,?_⟩) ?_ ?_
         rotate_left
         ·
          intro w'
          go_simp
          with_reducible rfl
         rotate_left
         ·
          simp only [Act.put,List.setIfInBounds_toArray,List.set_cons_zero,List.set_cons_succ,i64_w,i32_w]
          rfl
         refine take_ (i:=2) (N:=some 23) (v:=?_) (a':=?_) #[true,true,true,true,true,false,true,true,false,true,true,false,false,false,false,false] rfl rfl (take_ofW HT_.out HW_.out (by kernel_rfl)) (fun _ _ _ h=>h) (Or.inl ⟨by rfl,?_⟩) hHeld ?_ ?_
         rotate_left
         ·
          rintro w' ⟨s0,s1,s2,s3⟩
          go_simp
          with_reducible rfl
         rotate_left
         ·
          simp only [Act.put,List.setIfInBounds_toArray,List.set_cons_zero,List.set_cons_succ,i64_w,i32_w]
          rfl
         refine pure_ (i:=12) (N:=some 7) (v:=?_) (a':=?_) #[true,true,true,true,true,false,true,true,false,true,true,false,true,false,false,false] rfl rfl (any_of HT_.out (by kernel_rfl)) (fun _ _ _ h=>h) (Or.inl ⟨by rfl,?_⟩) ?_ ?_
         rotate_left
         ·
          intro w'
          go_simp
          with_reducible rfl
         rotate_left
         ·
          simp only [Act.put,List.setIfInBounds_toArray,List.set_cons_zero,List.set_cons_succ,i64_w,i32_w]
          rfl
         refine take_ (i:=5) (N:=some 26) (v:=?_) (a':=?_) #[true,true,true,true,true,true,true,true,false,true,true,false,true,false,false,false] rfl rfl (take_ofW HT_.out HW_.out (by kernel_rfl)) (fun _ _ _ h=>h) (Or.inl ⟨by rfl,?_⟩) hHeld ?_ ?_
         rotate_left
         ·
          rintro w' ⟨s0,s1,s2,s3⟩
          go_simp
          with_reducible rfl
         rotate_left
         ·
          simp only [Act.put,List.setIfInBounds_toArray,List.set_cons_zero,List.set_cons_succ,i64_w,i32_w]
          rfl
         refine pure_ (i:=13) (N:=some 8) (v:=?_) (a':=?_) #[true,true,true,true,true,true,true,true,false,true,true,false,true,true,false,false] rfl rfl (any_of HT_.out (by kernel_rfl)) (fun _ _ _ h=>h) (Or.inl ⟨by rfl,?_⟩) ?_ ?_
         rotate_left
         ·
          intro w'
          go_simp
          with_reducible rfl
         rotate_left
         ·
          simp only [Act.put,List.setIfInBounds_toArray,List.set_cons_zero,List.set_cons_succ,i64_w,i32_w]
          rfl
         refine take_ (i:=8) (N:=some 29) (v:=?_) (a':=?_) #[true,true,true,true,true,true,true,true,true,true,true,false,true,true,false,false] rfl rfl (take_ofW HT_.out HW_.out (by kernel_rfl)) (fun _ _ _ h=>h) (Or.inl ⟨by rfl,?_⟩) hHeld ?_ ?_
         rotate_left
         ·
          rintro w' ⟨s0,s1,s2,s3⟩
          go_simp
          with_reducible rfl
         rotate_left
         ·
          simp only [Act.put,List.setIfInBounds_toArray,List.set_cons_zero,List.set_cons_succ,i64_w,i32_w]
          rfl
         refine pure_ (i:=14) (N:=some 9) (v:=?_) (a':=?_) #[true,true,true,true,true,true,true,true,true,true,true,false,true,true,true,false] rfl rfl (any_of HT_.out (by kernel_rfl)) (fun _ _ _ h=>h) (Or.inl ⟨by rfl,?_⟩) ?_ ?_
         rotate_left
         ·
          intro w'
          go_simp
          with_reducible rfl
         rotate_left
         ·
          simp only [Act.put,List.setIfInBounds_toArray,List.set_cons_zero,List.set_cons_succ,i64_w,i32_w]
          rfl
         refine take_ (i:=11) (N:=some 32) (v:=?_) (a':=?_) #[true,true,true,true,true,true,true,true,true,true,true,true,true,true,true,false] rfl rfl (take_ofW HT_.out HW_.out (by kernel_rfl)) (fun _ _ _ h=>h) (Or.inl ⟨by rfl,?_⟩) hHeld ?_ ?_
         rotate_left
         ·
          rintro w' ⟨s0,s1,s2,s3⟩
          go_simp
          with_reducible rfl
         rotate_left
         ·
          simp only [Act.put,List.setIfInBounds_toArray,List.set_cons_zero,List.set_cons_succ,i64_w,i32_w]
          rfl
         refine pure_ (i:=15) (N:=some 10) (v:=?_) (a':=?_) #[true,true,true,true,true,true,true,true,true,true,true,true,true,true,true,true] rfl rfl (any_of HT_.out (by kernel_rfl)) (fun _ _ _ h=>h) (Or.inl ⟨by rfl,?_⟩) ?_ ?_
         rotate_left
         ·
          intro w'
          go_simp
          with_reducible rfl
         rotate_left
         ·
          simp only [Act.put,List.setIfInBounds_toArray,List.set_cons_zero,List.set_cons_succ,i64_w,i32_w]
          rfl
         refine done_ (done_of HT_.out (by kernel_rfl)) ?_
         try go_wp2
         have n0_:=Aside0.mk (Kd.R_drew HO150.out)
         have n1_:=Aside0.mk (Kd.R_drew HO153.out)
         have n2_:=Aside0.mk (below_drew1 HB.out)
         clear HO150
         clear HO153
         clear HB
         have HO150:=n0_
         have HO153:=n1_
         have HB:=n2_
         clear n0_ n1_ n2_
         have p158:0≤(4:Int):=(by omega)
         have q158:4 < (l0.length:Int):=of_decide_eq_true (by first|(with_reducible assumption)|assumption)
         obtain ⟨ad158,e158,hx158_0⟩:=Kd.at_int HR0.out 4 p158 q158
         have hw158_0:=hx158_0
         (try rw [show ((4:Int)).toNat=4 from rfl] at hw158_0)
         (try rw [show 4 * 1=4 from rfl] at hw158_0)
         (try simp only [Nat.reduceMul,Nat.reduceEqDiff,Go.Addr.add,↓reduceIte] at hw158_0)
         obtain rfl:ad154=ad158:=(by injection e158)
         (try simp only [show (4:Int).toNat=4 from rfl,Nat.reduceMul,Nat.reduceEqDiff,Go.Addr.add,↓reduceIte] at hx158_0)
         have qi158:(4 < l0.length)=True:=eq_true (by omega)
         (try rw [show ((4:Int)).toNat=4 from rfl] at hx158_0)
         replace hx158_0:=(HB.out.cell (World.block_lt_of_cell? w _ hx158_0)).trans hx158_0
         replace p158:=eq_true p158
         replace q158:=eq_true q158
         have p159:0≤(5:Int):=(by omega)
         have q159:5 < (l0.length:Int):=of_decide_eq_true (by first|(with_reducible assumption)|assumption)
         obtain ⟨ad159,e159,hx159_0⟩:=Kd.at_int HR0.out 5 p159 q159
         have hw159_0:=hx159_0
         (try rw [show ((5:Int)).toNat=5 from rfl] at hw159_0)
         (try rw [show 5 * 1=5 from rfl] at hw159_0)
         (try simp only [Nat.reduceMul,Nat.reduceEqDiff,Go.Addr.add,↓reduceIte] at hw159_0)
         obtain rfl:ad154=ad159:=(by injection e159)
         (try simp only [show (5:Int).toNat=5 from rfl,Nat.reduceMul,Nat.reduceEqDiff,Go.Addr.add,↓reduceIte] at hx159_0)
         have qi159:(5 < l0.length)=True:=eq_true (by omega)
         (try rw [show ((5:Int)).toNat=5 from rfl] at hx159_0)
         replace hx159_0:=(HB.out.cell (World.block_lt_of_cell? w _ hx159_0)).trans hx159_0
         replace p159:=eq_true p159
         replace q159:=eq_true q159
         have p160:0≤(6:Int):=(by omega)
         have q160:6 < (l0.length:Int):=of_decide_eq_true (by first|(with_reducible assumption)|assumption)
         obtain ⟨ad160,e160,hx160_0⟩:=Kd.at_int HR0.out 6 p160 q160
         have hw160_0:=hx160_0
         (try rw [show ((6:Int)).toNat=6 from rfl] at hw160_0)
         (try rw [show 6 * 1=6 from rfl] at hw160_0)
         (try simp only [Nat.reduceMul,Nat.reduceEqDiff,Go.Addr.add,↓reduceIte] at hw160_0)
         obtain rfl:ad154=ad160:=(by injection e160)
         (try simp only [show (6:Int).toNat=6 from rfl,Nat.reduceMul,Nat.reduceEqDiff,Go.Addr.add,↓reduceIte] at hx160_0)
         have qi160:(6 < l0.length)=True:=eq_true (by omega)
         (try rw [show ((6:Int)).toNat=6 from rfl] at hx160_0)
         replace hx160_0:=(HB.out.cell (World.block_lt_of_cell? w _ hx160_0)).trans hx160_0
         replace p160:=eq_true p160
         replace q160:=eq_true q160
         have p161:0≤(7:Int):=(by omega)
         have q161:7 < (l0.length:Int):=of_decide_eq_true (by first|(with_reducible assumption)|assumption)
         obtain ⟨ad161,e161,hx161_0⟩:=Kd.at_int HR0.out 7 p161 q161
         have hw161_0:=hx161_0
         (try rw [show ((7:Int)).toNat=7 from rfl] at hw161_0)
         (try rw [show 7 * 1=7 from rfl] at hw161_0)
         (try simp only [Nat.reduceMul,Nat.reduceEqDiff,Go.Addr.add,↓reduceIte] at hw161_0)
         obtain rfl:ad154=ad161:=(by injection e161)
         (try simp only [show (7:Int).toNat=7 from rfl,Nat.reduceMul,Nat.reduceEqDiff,Go.Addr.add,↓reduceIte] at hx161_0)
         have qi161:(7 < l0.length)=True:=eq_true (by omega)
         (try rw [show ((7:Int)).toNat=7 from rfl] at hx161_0)
         replace hx161_0:=(HB.out.cell (World.block_lt_of_cell? w _ hx161_0)).trans hx161_0
         replace p161:=eq_true p161
         replace q161:=eq_true q161
         refine start_ (n:=16) (S:=fun w'=>w'.cell? ⟨ad154.block,ad154.off+4,none⟩=some (.int .u32 (rd l0 4))∧w'.cell? ⟨ad154.block,ad154.off+5,none⟩=some (.int .u32 (rd l0 5))∧w'.cell? ⟨ad154.block,ad154.off+6,none⟩=some (.int .u32 (rd l0 6))∧w'.cell? ⟨ad154.block,ad154.off+7,none⟩=some (.int .u32 (rd l0 7))) (ds:=[]) #[false,false,false,false,false,false,false,false,false,false,false,false,false,false,false,false] (by kernel_rfl) rfl rfl ⟨((HB.out.cell (World.block_lt_of_cell? w _ hw158_0)).trans hw158_0),((HB.out.cell (World.block_lt_of_cell? w _ hw159_0)).trans hw159_0),((HB.out.cell (World.block_lt_of_cell? w _ hw160_0)).trans hw160_0),((HB.out.cell (World.block_lt_of_cell? w _ hw161_0)).trans hw161_0)⟩ (fun hHeld=>?_);refine with_tabW mosaicref01_Mix.tab4 mosaicref01_Mix.bits4 (fun HT_ HW_=>?_)
         generalize w15.drew=w16 at HO150 HO153 HB hx158_0 hx159_0 hx160_0 hx161_0 hHeld ⊢
         refine pure_ (i:=0) (N:=some 33) (v:=?_) (a':=?_) #[true,false,false,false,false,false,false,false,false,false,false,false,false,false,false,false] rfl rfl (any_of HT_.out (by kernel_rfl)) (fun _ _ _ h=>h) (Or.inl ⟨by rfl,?_⟩) ?_ ?_
         rotate_left
         ·
          intro w'
          go_simp
          with_reducible rfl
         rotate_left
         ·
          simp only [Act.put,List.setIfInBounds_toArray,List.set_cons_zero,List.set_cons_succ,i64_w,i32_w]
          rfl
         refine pure_ (i:=1) (N:=some 34) (v:=?_) (a':=?_) #[true,true,false,false,false,false,false,false,false,false,false,false,false,false,false,false] rfl rfl (any_of HT_.out (by kernel_rfl)) (fun _ _ _ h=>h) (Or.inl ⟨by rfl,?_⟩) ?_ ?_
         rotate_left
         ·
          intro w'
          go_simp
          with_reducible rfl
         rotate_left
         ·
          simp only [Act.put,List.setIfInBounds_toArray,List.set_cons_zero,List.set_cons_succ,i64_w,i32_w]
          rfl
         refine pure_ (i:=3) (N:=some 36) (v:=?_) (a':=?_) #[true,true,false,true,false,false,false,false,false,false,false,false,false,false,false,false] rfl rfl (any_of HT_.out (by kernel_rfl)) (fun _ _ _ h=>h) (Or.inl ⟨by rfl,?_⟩) ?_ ?_
         rotate_left
         ·
          intro w'
          go_simp
          with_reducible rfl
         rotate_left
         ·
          simp only [Act.put,List.setIfInBounds_toArray,List.set_cons_zero,List.set_cons_succ,i64_w,i32_w]
          rfl
         refine pure_ (i:=4) (N:=some 37) (v:=?_) (a':=?_) #[true,true,false,true,true,false,false,false,false,false,false,false,false,false,false,false] rfl rfl (any_of HT_.out (by kernel_rfl)) (fun _ _ _ h=>h) (Or.inl ⟨by rfl,?_⟩) ?_ ?_
         rotate_left
         ·
          intro w'
          go_simp
          with_reducible rfl
         rotate_left
         ·
          simp only [Act.put,List.setIfInBounds_toArray,List.set_cons_zero,List.set_cons_succ,i64_w,i32_w]
          rfl
         refine pure_ (i:=6) (N:=some 39) (v:=?_) (a':=?_) #[true,true,false,true,true,false,true,false,false,false,false,false,false,false,false,false] rfl rfl (any_of HT_.out (by kernel_rfl)) (fun _ _ _ h=>h) (Or.inl ⟨by rfl,?_⟩) ?_ ?_
         rotate_left
         ·
          intro w'
          go_simp
          with_reducible rfl
         rotate_left
         ·
          simp only [Act.put,List.setIfInBounds_toArray,List.set_cons_zero,List.set_cons_succ,i64_w,i32_w]
          rfl
         refine pure_ (i:=7) (N:=some 40) (v:=?_) (a':=?_) #[true,true,false,true,true,false,true,true,false,false,false,false,false,false,false,false] rfl rfl (any_of HT_.out (by kernel_rfl)) (fun _ _ _ h=>h) (Or.inl ⟨by rfl,?_⟩) ?_ ?_
         rotate_left
         ·
          intro w'
          go_simp
          with_reducible rfl
         rotate_left
         ·
          simp only [Act.put,List.setIfInBounds_toArray,List.set_cons_zero,List.set_cons_succ,i64_w,i32_w]
          rfl
         refine pure_ (i:=9) (N:=some 42) (v:=?_) (a':=?_) #[true,true,false,true,true,false,true,true,false,true,false,false,false,false,false,false] rfl rfl (any_of HT_.out (by kernel_rfl)) (fun _ _ _ h=>h) (Or.inl ⟨by rfl,?_⟩) ?_ ?_
         rotate_left
         ·
          intro w'
          go_simp
          with_reducible rfl
         rotate_left
         ·
          simp only [Act.put,List.setIfInBounds_toArray,List.set_cons_zero,List.set_cons_succ,i64_w,i32_w]
          rfl
         refine pure_ (i:=10) (N:=some 43) (v:=?_) (a':=?_) #[true,true,false,true,true,false,true,true,false,true,true,false,false,false,false,false] rfl rfl (any_of HT_.out (by kernel_rfl)) (fun _ _ _ h=>h) (Or.inl ⟨by rfl,?_⟩) ?_ ?_
         rotate_left
         ·
          intro w'
          go_simp
          with_reducible rfl
         rotate_left
         ·
          simp only [Act.put,List.setIfInBounds_toArray,List.set_cons_zero,List.set_cons_succ,i64_w,i32_w]
          rfl
         refine take_ (i:=2) (N:=some 35) (v:=?_) (a':=?_) #[true,true,true,true,true,false,true,true,false,true,true,false,false,false,false,false] rfl rfl (take_ofW HT_.out HW_.out (by kernel_rfl)) (fun _ _ _ h=>h) (Or.inl ⟨by rfl,?_⟩) hHeld ?_ ?_
         rotate_left
         ·
          rintro w' ⟨s0,s1,s2,s3⟩
          go_simp
          with_reducible rfl
         rotate_left
         ·
          simp only [Act.put,List.setIfInBounds_toArray,List.set_cons_zero,List.set_cons_succ,i64_w,i32_w]
          rfl
         refine pure_ (i:=12) (N:=some 11) (v:=?_) (a':=?_) #[true,true,true,true,true,false,true,true,false,true,true,false,true,false,false,false] rfl rfl (any_of HT_.out (by kernel_rfl)) (fun _ _ _ h=>h) (Or.inl ⟨by rfl,?_⟩) ?_ ?_
         rotate_left
         ·
          intro w'
          go_simp
          with_reducible rfl
         rotate_left
         ·
          simp only [Act.put,List.setIfInBounds_toArray,List.set_cons_zero,List.set_cons_succ,i64_w,i32_w]
          rfl
         refine take_ (i:=5) (N:=some 38) (v:=?_) (a':=?_) #[true,true,true,true,true,true,true,true,false,true,true,false,true,false,false,false] rfl rfl (take_ofW HT_.out HW_.out (by kernel_rfl)) (fun _ _ _ h=>h) (Or.inl ⟨by rfl,?_⟩) hHeld ?_ ?_
         rotate_left
         ·
          rintro w' ⟨s0,s1,s2,s3⟩
          go_simp
          with_reducible rfl
         rotate_left
         ·
          simp only [Act.put,List.setIfInBounds_toArray,List.set_cons_zero,List.set_cons_succ,i64_w,i32_w]
          rfl
         refine pure_ (i:=13) (N:=some 12) (v:=?_) (a':=?_) #[true,true,true,true,true,true,true,true,false,true,true,false,true,true,false,false] rfl rfl (any_of HT_.out (by kernel_rfl)) (fun _ _ _ h=>h) (Or.inl ⟨by rfl,?_⟩) ?_ ?_
         rotate_left
         ·
          intro w'
          go_simp
          with_reducible rfl
         rotate_left
         ·
          simp only [Act.put,List.setIfInBounds_toArray,List.set_cons_zero,List.set_cons_succ,i64_w,i32_w]
          rfl
         refine take_ (i:=8) (N:=some 41) (v:=?_) (a':=?_) #[true,true,true,true,true,true,true,true,true,true,true,false,true,true,false,false] rfl rfl (take_ofW HT_.out HW_.out (by kernel_rfl)) (fun _ _ _ h=>h) (Or.inl ⟨by rfl,?_⟩) hHeld ?_ ?_
         rotate_left
         ·
          rintro w' ⟨s0,s1,s2,s3⟩
          go_simp
          with_reducible rfl
         rotate_left
         ·
          simp only [Act.put,List.setIfInBounds_toArray,List.set_cons_zero,List.set_cons_succ,i64_w,i32_w]
          rfl
         refine pure_ (i:=14) (N:=some 13) (v:=?_) (a':=?_) #[true,true,true,true,true,true,true,true,true,true,true,false,true,true,true,false] rfl rfl (any_of HT_.out (by kernel_rfl)) (fun _ _ _ h=>h) (Or.inl ⟨by rfl,?_⟩) ?_ ?_
         rotate_left
         ·
          intro w'
          go_simp
          with_reducible rfl
         rotate_left
         ·
          simp only [Act.put,List.setIfInBounds_toArray,List.set_cons_zero,List.set_cons_succ,i64_w,i32_w]
          rfl
         refine take_ (i:=11) (N:=some 44) (v:=?_) (a':=?_) #[true,true,true,true,true,true,true,true,true,true,true,true,true,true,true,false] rfl rfl (take_ofW HT_.out HW_.out (by kernel_rfl)) (fun _ _ _ h=>h) (Or.inl ⟨by rfl,?_⟩) hHeld ?_ ?_
         rotate_left
         ·
          rintro w' ⟨s0,s1,s2,s3⟩
          go_simp
          with_reducible rfl
         rotate_left
         ·
          simp only [Act.put,List.setIfInBounds_toArray,List.set_cons_zero,List.set_cons_succ,i64_w,i32_w]
          rfl
         refine pure_ (i:=15) (N:=some 14) (v:=?_) (a':=?_) #[true,true,true,true,true,true,true,true,true,true,true,true,true,true,true,true] rfl rfl (any_of HT_.out (by kernel_rfl)) (fun _ _ _ h=>h) (Or.inl ⟨by rfl,?_⟩) ?_ ?_
         rotate_left
         ·
          intro w'
          go_simp
          with_reducible rfl
         rotate_left
         ·
          simp only [Act.put,List.setIfInBounds_toArray,List.set_cons_zero,List.set_cons_succ,i64_w,i32_w]
          rfl
         refine done_ (done_of HT_.out (by kernel_rfl)) ?_
         try go_wp2
         go_loopg [7,8,9,10,11,12,13,14,15] k (fun kq v7 v8 v9 v10 v11 v12 v13 v14 v15 w'=>∃ (x7_1:Int) (x8_1:Int) (x9_1:Int) (x10_1:Int) (x11_1:Int) (x12_1:Int) (x13_1:Int) (x14_1:Int) (x15_1:Int),v7=.int .u32 x7_1∧v8=.int .u32 x8_1∧v9=.int .u32 x9_1∧v10=.int .u32 x10_1∧v11=.int .u32 x11_1∧v12=.int .u32 x12_1∧v13=.int .u32 x13_1∧v14=.int .u32 x14_1∧v15=.int .i64 x15_1∧Aside0 (mosaicref01_Mix.l0 kq l0 t148 t151 x7_1 x8_1 x9_1 x10_1 x11_1 x12_1 x13_1 x14_1 x15_1=some r)∧Aside0 (kq≤k)∧Aside0 (Kd.R (Kd.int .u32) 27 w' w.heap.size (fun k_=>some k_≠(v152:Value).ownBlock) v149 t148)∧Aside0 (Kd.R (Kd.int .u32) 27 w' w.heap.size (fun k_=>some k_≠(v149:Value).ownBlock) v152 t151)∧Aside0 (Below w.heap.size w w'))
         case atStart=>exact ⟨(rd l0 0),(rd l0 1),(rd l0 2),(rd l0 3),(rd l0 4),(rd l0 5),(rd l0 6),(rd l0 7),(0),(by first|rfl|(simp;done)|(simp [*];done)),(by first|rfl|(simp;done)|(simp [*];done)),(by first|rfl|(simp;done)|(simp [*];done)),(by first|rfl|(simp;done)|(simp [*];done)),(by first|rfl|(simp;done)|(simp [*];done)),(by first|rfl|(simp;done)|(simp [*];done)),(by first|rfl|(simp;done)|(simp [*];done)),(by first|rfl|(simp;done)|(simp [*];done)),(by first|rfl|(simp;done)|(simp [*];done)),H',⟨Nat.le_refl _⟩,⟨by (with_reducible repeat (first|apply Kd.R_alloc|apply Kd.R_drewN|apply Kd.R_drew));exact Kd.R_mono HO150.out (fun _ hk=>hk.2)⟩,⟨by (with_reducible repeat (first|apply Kd.R_alloc|apply Kd.R_drewN|apply Kd.R_drew));exact Kd.R_mono HO153.out (fun _ hk=>hk.2)⟩,⟨by repeat (first|(with_reducible first|exact HB.out|apply below_alloc|apply pw_below_drewN|apply below_drew1)|exact HB.out)⟩⟩
         case round =>
          clear H'
          try clear c1
          try clear p1
          try clear q1
          try clear hx1
          try clear qi1
          try clear p2
          try clear c3
          try clear c5
          try clear c5b0
          try clear c5b1
          try clear c6
          try clear c6b0
          try clear c6b1
          try clear c7
          try clear c7b0
          try clear c7b1
          try clear c8
          try clear c8b0
          try clear c8b1
          try clear c9
          try clear c9b0
          try clear c9b1
          try clear c10
          try clear c10b0
          try clear c10b1
          try clear c11
          try clear c11b0
          try clear c11b1
          try clear c12
          try clear c12b0
          try clear c12b1
          try clear p15
          try clear q15
          try clear hx15
          try clear qi15
          try clear p16
          try clear q16
          try clear hx16
          try clear qi16
          try clear hx154_0
          try clear hx155_0
          try clear hx156_0
          try clear hx157_0
          try clear hx158_0
          try clear hx159_0
          try clear hx160_0
          try clear hx161_0
          try clear p154
          try clear p155
          try clear p156
          try clear p157
          try clear p158
          try clear p159
          try clear p160
          try clear p161
          try clear q154
          try clear q155
          try clear q156
          try clear q157
          try clear q158
          try clear q159
          try clear q160
          try clear q161
          obtain ⟨x7_1,x8_1,x9_1,x10_1,x11_1,x12_1,x13_1,x14_1,x15_1,rfl,rfl,rfl,rfl,rfl,rfl,rfl,rfl,rfl,HA,HK1,HO_5,HO_6,HB⟩:=hrel
          cases gk with
          | zero=>exact absurd HA.out (by simp [mosaicref01_Mix.l0])
          | succ k1 =>
           have H:=HA.out
           clear HA
           simp only [mosaicref01_Mix.l0] at H
           by_cases c17:x15_1 < 64
           ·
            rw [if_pos c17] at H
            have c17b0:decide (x15_1 < 64)=true:=decide_eq_true c17
            clear c17
            replace H:=Option.bind_eq_some_iff.mp H
            obtain ⟨t173,A180,H⟩:=H
            replace H:((mosaicref01_rotr.f x11_1 11).bind fun t174=>((mosaicref01_rotr.f x11_1 25).bind fun t175=>(if 0≤x15_1 then (if x15_1 < (t151.length:Int) then (if x15_1 < (t148.length:Int) then ((mosaicref01_rotr.f x7_1 2).bind fun t178=>((mosaicref01_rotr.f x7_1 13).bind fun t179=>((mosaicref01_rotr.f x7_1 22).bind fun t180=>(mosaicref01_Mix.l0 k1 l0 t148 t151 ((((((((((x14_1+(Go.bits .xor .u32 (Go.bits .xor .u32 t173 t174) t175)) % 4294967296)+(Go.bits .xor .u32 (Go.bits .and .u32 x11_1 x12_1) (Go.bits .and .u32 (Go.bits .xor .u32 4294967295 x11_1) x13_1))) % 4294967296)+(rd t151 x15_1)) % 4294967296)+(rd t148 x15_1)) % 4294967296)+(((Go.bits .xor .u32 (Go.bits .xor .u32 t178 t179) t180)+(Go.bits .xor .u32 (Go.bits .xor .u32 (Go.bits .and .u32 x7_1 x8_1) (Go.bits .and .u32 x7_1 x9_1)) (Go.bits .and .u32 x8_1 x9_1))) % 4294967296)) % 4294967296) x7_1 x8_1 x9_1 ((x10_1+((((((((x14_1+(Go.bits .xor .u32 (Go.bits .xor .u32 t173 t174) t175)) % 4294967296)+(Go.bits .xor .u32 (Go.bits .and .u32 x11_1 x12_1) (Go.bits .and .u32 (Go.bits .xor .u32 4294967295 x11_1) x13_1))) % 4294967296)+(rd t151 x15_1)) % 4294967296)+(rd t148 x15_1)) % 4294967296)) % 4294967296) x11_1 x12_1 x13_1 (wrap64 (x15_1+1)))))) else (none)) else (none)) else (none))))=some r:=H
            have A18:=Aside0.mk A180
            clear A180
            replace H:=Option.bind_eq_some_iff.mp H
            obtain ⟨t174,A190,H⟩:=H
            replace H:((mosaicref01_rotr.f x11_1 25).bind fun t175=>(if 0≤x15_1 then (if x15_1 < (t151.length:Int) then (if x15_1 < (t148.length:Int) then ((mosaicref01_rotr.f x7_1 2).bind fun t178=>((mosaicref01_rotr.f x7_1 13).bind fun t179=>((mosaicref01_rotr.f x7_1 22).bind fun t180=>(mosaicref01_Mix.l0 k1 l0 t148 t151 ((((((((((x14_1+(Go.bits .xor .u32 (Go.bits .xor .u32 t173 t174) t175)) % 4294967296)+(Go.bits .xor .u32 (Go.bits .and .u32 x11_1 x12_1) (Go.bits .and .u32 (Go.bits .xor .u32 4294967295 x11_1) x13_1))) % 4294967296)+(rd t151 x15_1)) % 4294967296)+(rd t148 x15_1)) % 4294967296)+(((Go.bits .xor .u32 (Go.bits .xor .u32 t178 t179) t180)+(Go.bits .xor .u32 (Go.bits .xor .u32 (Go.bits .and .u32 x7_1 x8_1) (Go.bits .and .u32 x7_1 x9_1)) (Go.bits .and .u32 x8_1 x9_1))) % 4294967296)) % 4294967296) x7_1 x8_1 x9_1 ((x10_1+((((((((x14_1+(Go.bits .xor .u32 (Go.bits .xor .u32 t173 t174) t175)) % 4294967296)+(Go.bits .xor .u32 (Go.bits .and .u32 x11_1 x12_1) (Go.bits .and .u32 (Go.bits .xor .u32 4294967295 x11_1) x13_1))) % 4294967296)+(rd t151 x15_1)) % 4294967296)+(rd t148 x15_1)) % 4294967296)) % 4294967296) x11_1 x12_1 x13_1 (wrap64 (x15_1+1)))))) else (none)) else (none)) else (none)))=some r:=H
            have A19:=Aside0.mk A190
            clear A190
            replace H:=Option.bind_eq_some_iff.mp H
            obtain ⟨t175,A200,H⟩:=H
            replace H:(if 0≤x15_1 then (if x15_1 < (t151.length:Int) then (if x15_1 < (t148.length:Int) then ((mosaicref01_rotr.f x7_1 2).bind fun t178=>((mosaicref01_rotr.f x7_1 13).bind fun t179=>((mosaicref01_rotr.f x7_1 22).bind fun t180=>(mosaicref01_Mix.l0 k1 l0 t148 t151 ((((((((((x14_1+(Go.bits .xor .u32 (Go.bits .xor .u32 t173 t174) t175)) % 4294967296)+(Go.bits .xor .u32 (Go.bits .and .u32 x11_1 x12_1) (Go.bits .and .u32 (Go.bits .xor .u32 4294967295 x11_1) x13_1))) % 4294967296)+(rd t151 x15_1)) % 4294967296)+(rd t148 x15_1)) % 4294967296)+(((Go.bits .xor .u32 (Go.bits .xor .u32 t178 t179) t180)+(Go.bits .xor .u32 (Go.bits .xor .u32 (Go.bits .and .u32 x7_1 x8_1) (Go.bits .and .u32 x7_1 x9_1)) (Go.bits .and .u32 x8_1 x9_1))) % 4294967296)) % 4294967296) x7_1 x8_1 x9_1 ((x10_1+((((((((x14_1+(Go.bits .xor .u32 (Go.bits .xor .u32 t173 t174) t175)) % 4294967296)+(Go.bits .xor .u32 (Go.bits .and .u32 x11_1 x12_1) (Go.bits .and .u32 (Go.bits .xor .u32 4294967295 x11_1) x13_1))) % 4294967296)+(rd t151 x15_1)) % 4294967296)+(rd t148 x15_1)) % 4294967296)) % 4294967296) x11_1 x12_1 x13_1 (wrap64 (x15_1+1)))))) else (none)) else (none)) else (none))=some r:=H
            have A20:=Aside0.mk A200
            clear A200
            by_cases c21:0≤x15_1
            ·
             rw [if_pos c21] at H
             have c21b0:decide (0≤x15_1)=true:=decide_eq_true c21
             clear c21
             by_cases c22:x15_1 < (t151.length:Int)
             ·
              rw [if_pos c22] at H
              have c22b0:decide (x15_1 < (t151.length:Int))=true:=decide_eq_true c22
              clear c22
              by_cases c23:x15_1 < (t148.length:Int)
              ·
               rw [if_pos c23] at H
               have c23b0:decide (x15_1 < (t148.length:Int))=true:=decide_eq_true c23
               clear c23
               replace H:=Option.bind_eq_some_iff.mp H
               obtain ⟨t178,A240,H⟩:=H
               replace H:((mosaicref01_rotr.f x7_1 13).bind fun t179=>((mosaicref01_rotr.f x7_1 22).bind fun t180=>(mosaicref01_Mix.l0 k1 l0 t148 t151 ((((((((((x14_1+(Go.bits .xor .u32 (Go.bits .xor .u32 t173 t174) t175)) % 4294967296)+(Go.bits .xor .u32 (Go.bits .and .u32 x11_1 x12_1) (Go.bits .and .u32 (Go.bits .xor .u32 4294967295 x11_1) x13_1))) % 4294967296)+(rd t151 x15_1)) % 4294967296)+(rd t148 x15_1)) % 4294967296)+(((Go.bits .xor .u32 (Go.bits .xor .u32 t178 t179) t180)+(Go.bits .xor .u32 (Go.bits .xor .u32 (Go.bits .and .u32 x7_1 x8_1) (Go.bits .and .u32 x7_1 x9_1)) (Go.bits .and .u32 x8_1 x9_1))) % 4294967296)) % 4294967296) x7_1 x8_1 x9_1 ((x10_1+((((((((x14_1+(Go.bits .xor .u32 (Go.bits .xor .u32 t173 t174) t175)) % 4294967296)+(Go.bits .xor .u32 (Go.bits .and .u32 x11_1 x12_1) (Go.bits .and .u32 (Go.bits .xor .u32 4294967295 x11_1) x13_1))) % 4294967296)+(rd t151 x15_1)) % 4294967296)+(rd t148 x15_1)) % 4294967296)) % 4294967296) x11_1 x12_1 x13_1 (wrap64 (x15_1+1)))))=some r:=H
               have A24:=Aside0.mk A240
               clear A240
               replace H:=Option.bind_eq_some_iff.mp H
               obtain ⟨t179,A250,H⟩:=H
               replace H:((mosaicref01_rotr.f x7_1 22).bind fun t180=>(mosaicref01_Mix.l0 k1 l0 t148 t151 ((((((((((x14_1+(Go.bits .xor .u32 (Go.bits .xor .u32 t173 t174) t175)) % 4294967296)+(Go.bits .xor .u32 (Go.bits .and .u32 x11_1 x12_1) (Go.bits .and .u32 (Go.bits .xor .u32 4294967295 x11_1) x13_1))) % 4294967296)+(rd t151 x15_1)) % 4294967296)+(rd t148 x15_1)) % 4294967296)+(((Go.bits .xor .u32 (Go.bits .xor .u32 t178 t179) t180)+(Go.bits .xor .u32 (Go.bits .xor .u32 (Go.bits .and .u32 x7_1 x8_1) (Go.bits .and .u32 x7_1 x9_1)) (Go.bits .and .u32 x8_1 x9_1))) % 4294967296)) % 4294967296) x7_1 x8_1 x9_1 ((x10_1+((((((((x14_1+(Go.bits .xor .u32 (Go.bits .xor .u32 t173 t174) t175)) % 4294967296)+(Go.bits .xor .u32 (Go.bits .and .u32 x11_1 x12_1) (Go.bits .and .u32 (Go.bits .xor .u32 4294967295 x11_1) x13_1))) % 4294967296)+(rd t151 x15_1)) % 4294967296)+(rd t148 x15_1)) % 4294967296)) % 4294967296) x11_1 x12_1 x13_1 (wrap64 (x15_1+1))))=some r:=H
               have A25:=Aside0.mk A250
               clear A250
               replace H:=Option.bind_eq_some_iff.mp H
               obtain ⟨t180,A260,H⟩:=H
               replace H:(mosaicref01_Mix.l0 k1 l0 t148 t151 ((((((((((x14_1+(Go.bits .xor .u32 (Go.bits .xor .u32 t173 t174) t175)) % 4294967296)+(Go.bits .xor .u32 (Go.bits .and .u32 x11_1 x12_1) (Go.bits .and .u32 (Go.bits .xor .u32 4294967295 x11_1) x13_1))) % 4294967296)+(rd t151 x15_1)) % 4294967296)+(rd t148 x15_1)) % 4294967296)+(((Go.bits .xor .u32 (Go.bits .xor .u32 t178 t179) t180)+(Go.bits .xor .u32 (Go.bits .xor .u32 (Go.bits .and .u32 x7_1 x8_1) (Go.bits .and .u32 x7_1 x9_1)) (Go.bits .and .u32 x8_1 x9_1))) % 4294967296)) % 4294967296) x7_1 x8_1 x9_1 ((x10_1+((((((((x14_1+(Go.bits .xor .u32 (Go.bits .xor .u32 t173 t174) t175)) % 4294967296)+(Go.bits .xor .u32 (Go.bits .and .u32 x11_1 x12_1) (Go.bits .and .u32 (Go.bits .xor .u32 4294967295 x11_1) x13_1))) % 4294967296)+(rd t151 x15_1)) % 4294967296)+(rd t148 x15_1)) % 4294967296)) % 4294967296) x11_1 x12_1 x13_1 (wrap64 (x15_1+1)))=some r:=H
               have A26:=Aside0.mk A260
               clear A260
               have H':=Aside0.mk H
               clear H
               try go_wp2
               have n0_:=Aside0.mk (Kd.R_drew HO_5.out)
               have n1_:=Aside0.mk (Kd.R_drew HO_6.out)
               have n2_:=Aside0.mk (below_drew1 HB.out)
               clear HO_5
               clear HO_6
               clear HB
               have HO_5:=n0_
               have HO_6:=n1_
               have HB:=n2_
               clear n0_ n1_ n2_
               obtain ⟨Ao28,co28,eo28⟩:=Kd.R_slice HO_6.out
               (first|subst eo28|(injection eo28 with f1_ f2_ f3_;have f4_:=f1_.symm;have f5_:=f3_.symm;clear f1_ f2_ f3_;subst f4_;subst f5_))
               have p176:0≤(x15_1:Int):=of_decide_eq_true (by first|(with_reducible assumption)|assumption)
               have q176:x15_1 < (t151.length:Int):=of_decide_eq_true (by first|(with_reducible assumption)|assumption)
               obtain ⟨ad176,e176,hx176_0⟩:=Kd.at_int (Kd.R_reads' HO_6.out).2.2 x15_1 p176 q176
               cases e176
               replace p176:=eq_true p176
               replace q176:=eq_true q176
               obtain ⟨Ao29,co29,eo29⟩:=Kd.R_slice HO_5.out
               (first|subst eo29|(injection eo29 with f1_ f2_ f3_;have f4_:=f1_.symm;have f5_:=f3_.symm;clear f1_ f2_ f3_;subst f4_;subst f5_))
               have p177:0≤(x15_1:Int):=of_decide_eq_true (by first|(with_reducible assumption)|assumption)
               have q177:x15_1 < (t148.length:Int):=of_decide_eq_true (by first|(with_reducible assumption)|assumption)
               obtain ⟨ad177,e177,hx177_0⟩:=Kd.at_int (Kd.R_reads' HO_5.out).2.2 x15_1 p177 q177
               cases e177
               replace p177:=eq_true p177
               replace q177:=eq_true q177
               refine start_ (n:=30) (S:=fun w'=>w'.cell? (ad176.add (x15_1).toNat)=some (.int .u32 (rd t151 x15_1))∧w'.cell? (ad177.add (x15_1).toNat)=some (.int .u32 (rd t148 x15_1))) (ds:=[]) #[false,false,false,false,false,false,false,false,false,false,false,false,false,false,false,false,false,false,false,false,false,false,false,false,false,false,false,false,false,false] (by kernel_rfl) rfl rfl ⟨hx176_0,hx177_0⟩ (fun hHeld=>?_);refine with_tabW mosaicref01_Mix.tab8 mosaicref01_Mix.bits8 (fun HT_ HW_=>?_)
               generalize wr.drew=w27 at HO_5 HO_6 HB hx176_0 hx177_0 hHeld ⊢
               refine pure_ (i:=0) (N:=some 49) (v:=?_) (a':=?_) #[true,false,false,false,false,false,false,false,false,false,false,false,false,false,false,false,false,false,false,false,false,false,false,false,false,false,false,false,false,false] rfl rfl (any_of HT_.out (by kernel_rfl)) (fun _ _ _ h=>h) (Or.inl ⟨by rfl,?_⟩) ?_ ?_
               rotate_left
               ·
                intro w'
                go_simp
                with_reducible rfl
               rotate_left
               ·
                simp only [Act.put,List.setIfInBounds_toArray,List.set_cons_zero,List.set_cons_succ,i64_w,i32_w]
                rfl
               refine pure_ (i:=1) (N:=some 50) (v:=?_) (a':=?_) #[true,true,false,false,false,false,false,false,false,false,false,false,false,false,false,false,false,false,false,false,false,false,false,false,false,false,false,false,false,false] rfl rfl (any_of HT_.out (by kernel_rfl)) (fun _ _ _ h=>h) (Or.inl ⟨by rfl,?_⟩) ?_ ?_
               rotate_left
               ·
                intro w'
                go_simp
                with_reducible rfl
               rotate_left
               ·
                simp only [Act.put,List.setIfInBounds_toArray,List.set_cons_zero,List.set_cons_succ,i64_w,i32_w]
                rfl
               refine pure_ (i:=3) (N:=some 52) (v:=?_) (a':=?_) #[true,true,false,true,false,false,false,false,false,false,false,false,false,false,false,false,false,false,false,false,false,false,false,false,false,false,false,false,false,false] rfl rfl (any_of HT_.out (by kernel_rfl)) (fun _ _ _ h=>h) (Or.inl ⟨by rfl,?_⟩) ?_ ?_
               rotate_left
               ·
                intro w'
                go_simp
                with_reducible rfl
               rotate_left
               ·
                simp only [Act.put,List.setIfInBounds_toArray,List.set_cons_zero,List.set_cons_succ,i64_w,i32_w]
                rfl
               refine pure_ (i:=6) (N:=some 55) (v:=?_) (a':=?_) #[true,true,false,true,false,false,true,false,false,false,false,false,false,false,false,false,false,false,false,false,false,false,false,false,false,false,false,false,false,false] rfl rfl (any_of HT_.out (by kernel_rfl)) (fun _ _ _ h=>h) (Or.inl ⟨by rfl,?_⟩) ?_ ?_
               rotate_left
               ·
                intro w'
                go_simp
                with_reducible rfl
               rotate_left
               ·
                simp only [Act.put,List.setIfInBounds_toArray,List.set_cons_zero,List.set_cons_succ,i64_w,i32_w]
                rfl
               refine pure_ (i:=10) (N:=some 59) (v:=?_) (a':=?_) #[true,true,false,true,false,false,true,false,false,false,true,false,false,false,false,false,false,false,false,false,false,false,false,false,false,false,false,false,false,false] rfl rfl (any_of HT_.out (by kernel_rfl)) (fun _ _ _ h=>h) (Or.inl ⟨by rfl,?_⟩) ?_ ?_
               rotate_left
               ·
                intro w'
                go_simp
                with_reducible rfl
               rotate_left
               ·
                simp only [Act.put,List.setIfInBounds_toArray,List.set_cons_zero,List.set_cons_succ,i64_w,i32_w]
                rfl
               refine pure_ (i:=11) (N:=some 60) (v:=?_) (a':=?_) #[true,true,false,true,false,false,true,false,false,false,true,true,false,false,false,false,false,false,false,false,false,false,false,false,false,false,false,false,false,false] rfl rfl (any_of HT_.out (by kernel_rfl)) (fun _ _ _ h=>h) (Or.inl ⟨by rfl,?_⟩) ?_ ?_
               rotate_left
               ·
                intro w'
                go_simp
                with_reducible rfl
               rotate_left
               ·
                simp only [Act.put,List.setIfInBounds_toArray,List.set_cons_zero,List.set_cons_succ,i64_w,i32_w]
                rfl
               refine pure_ (i:=12) (N:=some 61) (v:=?_) (a':=?_) #[true,true,false,true,false,false,true,false,false,false,true,true,true,false,false,false,false,false,false,false,false,false,false,false,false,false,false,false,false,false] rfl rfl (any_of HT_.out (by kernel_rfl)) (fun _ _ _ h=>h) (Or.inl ⟨by rfl,?_⟩) ?_ ?_
               rotate_left
               ·
                intro w'
                go_simp
                with_reducible rfl
               rotate_left
               ·
                simp only [Act.put,List.setIfInBounds_toArray,List.set_cons_zero,List.set_cons_succ,i64_w,i32_w]
                rfl
               refine pure_ (i:=13) (N:=some 62) (v:=?_) (a':=?_) #[true,true,false,true,false,false,true,false,false,false,true,true,true,true,false,false,false,false,false,false,false,false,false,false,false,false,false,false,false,false] rfl rfl (any_of HT_.out (by kernel_rfl)) (fun _ _ _ h=>h) (Or.inl ⟨by rfl,?_⟩) ?_ ?_
               rotate_left
               ·
                intro w'
                go_simp
                with_reducible rfl
               rotate_left
               ·
                simp only [Act.put,List.setIfInBounds_toArray,List.set_cons_zero,List.set_cons_succ,i64_w,i32_w]
                rfl
               refine pure_ (i:=14) (N:=some 63) (v:=?_) (a':=?_) #[true,true,false,true,false,false,true,false,false,false,true,true,true,true,true,false,false,false,false,false,false,false,false,false,false,false,false,false,false,false] rfl rfl (any_of HT_.out (by kernel_rfl)) (fun _ _ _ h=>h) (Or.inl ⟨by rfl,?_⟩) ?_ ?_
               rotate_left
               ·
                intro w'
                go_simp
                with_reducible rfl
               rotate_left
               ·
                simp only [Act.put,List.setIfInBounds_toArray,List.set_cons_zero,List.set_cons_succ,i64_w,i32_w]
                rfl
               refine pure_ (i:=15) (N:=some 64) (v:=?_) (a':=?_) #[true,true,false,true,false,false,true,false,false,false,true,true,true,true,true,true,false,false,false,false,false,false,false,false,false,false,false,false,false,false] rfl rfl (any_of HT_.out (by kernel_rfl)) (fun _ _ _ h=>h) (Or.inl ⟨by rfl,?_⟩) ?_ ?_
               rotate_left
               ·
                intro w'
                go_simp
                with_reducible rfl
               rotate_left
               ·
                simp only [Act.put,List.setIfInBounds_toArray,List.set_cons_zero,List.set_cons_succ,i64_w,i32_w]
                rfl
               refine pure_ (i:=16) (N:=some 65) (v:=?_) (a':=?_) #[true,true,false,true,false,false,true,false,false,false,true,true,true,true,true,true,true,false,false,false,false,false,false,false,false,false,false,false,false,false] rfl rfl (any_of HT_.out (by kernel_rfl)) (fun _ _ _ h=>h) (Or.inl ⟨by rfl,?_⟩) ?_ ?_
               rotate_left
               ·
                intro w'
                go_simp
                with_reducible rfl
               rotate_left
               ·
                simp only [Act.put,List.setIfInBounds_toArray,List.set_cons_zero,List.set_cons_succ,i64_w,i32_w]
                rfl
               refine pure_ (i:=17) (N:=some 66) (v:=?_) (a':=?_) #[true,true,false,true,false,false,true,false,false,false,true,true,true,true,true,true,true,true,false,false,false,false,false,false,false,false,false,false,false,false] rfl rfl (any_of HT_.out (by kernel_rfl)) (fun _ _ _ h=>h) (Or.inl ⟨by rfl,?_⟩) ?_ ?_
               rotate_left
               ·
                intro w'
                go_simp
                with_reducible rfl
               rotate_left
               ·
                simp only [Act.put,List.setIfInBounds_toArray,List.set_cons_zero,List.set_cons_succ,i64_w,i32_w]
                rfl
               refine pure_ (i:=19) (N:=some 68) (v:=?_) (a':=?_) #[true,true,false,true,false,false,true,false,false,false,true,true,true,true,true,true,true,true,false,true,false,false,false,false,false,false,false,false,false,false] rfl rfl (any_of HT_.out (by kernel_rfl)) (fun _ _ _ h=>h) (Or.inl ⟨by rfl,?_⟩) ?_ ?_
               rotate_left
               ·
                intro w'
                go_simp
                with_reducible rfl
               rotate_left
               ·
                simp only [Act.put,List.setIfInBounds_toArray,List.set_cons_zero,List.set_cons_succ,i64_w,i32_w]
                rfl
               refine pure_ (i:=20) (N:=some 69) (v:=?_) (a':=?_) #[true,true,false,true,false,false,true,false,false,false,true,true,true,true,true,true,true,true,false,true,true,false,false,false,false,false,false,false,false,false] rfl rfl (any_of HT_.out (by kernel_rfl)) (fun _ _ _ h=>h) (Or.inl ⟨by rfl,?_⟩) ?_ ?_
               rotate_left
               ·
                intro w'
                go_simp
                with_reducible rfl
               rotate_left
               ·
                simp only [Act.put,List.setIfInBounds_toArray,List.set_cons_zero,List.set_cons_succ,i64_w,i32_w]
                rfl
               refine pure_ (i:=21) (N:=some 70) (v:=?_) (a':=?_) #[true,true,false,true,false,false,true,false,false,false,true,true,true,true,true,true,true,true,false,true,true,true,false,false,false,false,false,false,false,false] rfl rfl (any_of HT_.out (by kernel_rfl)) (fun _ _ _ h=>h) (Or.inl ⟨by rfl,?_⟩) ?_ ?_
               rotate_left
               ·
                intro w'
                go_simp
                with_reducible rfl
               rotate_left
               ·
                simp only [Act.put,List.setIfInBounds_toArray,List.set_cons_zero,List.set_cons_succ,i64_w,i32_w]
                rfl
               refine pure_ (i:=24) (N:=some 73) (v:=?_) (a':=?_) #[true,true,false,true,false,false,true,false,false,false,true,true,true,true,true,true,true,true,false,true,true,true,false,false,true,false,false,false,false,false] rfl rfl (any_of HT_.out (by kernel_rfl)) (fun _ _ _ h=>h) (Or.inl ⟨by rfl,?_⟩) ?_ ?_
               rotate_left
               ·
                intro w'
                go_simp
                with_reducible rfl
               rotate_left
               ·
                simp only [Act.put,List.setIfInBounds_toArray,List.set_cons_zero,List.set_cons_succ,i64_w,i32_w]
                rfl
               refine pure_ (i:=25) (N:=some 74) (v:=?_) (a':=?_) #[true,true,false,true,false,false,true,false,false,false,true,true,true,true,true,true,true,true,false,true,true,true,false,false,true,true,false,false,false,false] rfl rfl (any_of HT_.out (by kernel_rfl)) (fun _ _ _ h=>h) (Or.inl ⟨by rfl,?_⟩) ?_ ?_
               rotate_left
               ·
                intro w'
                go_simp
                with_reducible rfl
               rotate_left
               ·
                simp only [Act.put,List.setIfInBounds_toArray,List.set_cons_zero,List.set_cons_succ,i64_w,i32_w]
                rfl
               refine pure_ (i:=26) (N:=some 75) (v:=?_) (a':=?_) #[true,true,false,true,false,false,true,false,false,false,true,true,true,true,true,true,true,true,false,true,true,true,false,false,true,true,true,false,false,false] rfl rfl (any_of HT_.out (by kernel_rfl)) (fun _ _ _ h=>h) (Or.inl ⟨by rfl,?_⟩) ?_ ?_
               rotate_left
               ·
                intro w'
                go_simp
                with_reducible rfl
               rotate_left
               ·
                simp only [Act.put,List.setIfInBounds_toArray,List.set_cons_zero,List.set_cons_succ,i64_w,i32_w]
                rfl
               refine take_ (i:=22) (N:=some 71) (v:=?_) (a':=?_) #[true,true,false,true,false,false,true,false,false,false,true,true,true,true,true,true,true,true,false,true,true,true,true,false,true,true,true,false,false,false] rfl rfl (take_ofW HT_.out HW_.out (by kernel_rfl)) (fun _ _ _ h=>h) (Or.inl ⟨by rfl,?_⟩) hHeld ?_ ?_
               rotate_left
               ·
                rintro w' ⟨s0,s1⟩
                go_simp
                with_reducible rfl
               rotate_left
               ·
                simp only [Act.put,List.setIfInBounds_toArray,List.set_cons_zero,List.set_cons_succ,i64_w,i32_w]
                rfl
               refine take_ (i:=27) (N:=some 76) (v:=?_) (a':=?_) #[true,true,false,true,false,false,true,false,false,false,true,true,true,true,true,true,true,true,false,true,true,true,true,false,true,true,true,true,false,false] rfl rfl (take_ofW HT_.out HW_.out (by kernel_rfl)) (fun _ _ _ h=>h) (Or.inl ⟨by rfl,?_⟩) hHeld ?_ ?_
               rotate_left
               ·
                rintro w' ⟨s0,s1⟩
                go_simp
                with_reducible rfl
               rotate_left
               ·
                simp only [Act.put,List.setIfInBounds_toArray,List.set_cons_zero,List.set_cons_succ,i64_w,i32_w]
                rfl
               refine one_ (i:=2) (N:=some 51) #[true,true,true,true,false,false,true,false,false,false,true,true,true,true,true,true,true,true,false,true,true,true,true,false,true,true,true,true,false,false] rfl rfl (one_of HT_.out (by kernel_rfl)) (by decide) (fun K hK=>?_)
               refine goes_ Try.func86 (by kernel_rfl) rfl #[.int .u32 x11_1,.int .u64 6] (by rfl) rfl rfl (by (try simp only [List.map_toArray,List.map_cons,List.map_nil]);first|done|rfl|(simp only [List.length_drop,List.length_take];rfl)) ?_
               with_reducible refine (mosaicref01_rotr.calls x11_1 6 t173 _ A18.out).mono ?_
               rintro e w' ⟨rfl,⟨nd,rfl⟩⟩
               refine ⟨_,rfl,?_⟩
               refine hK.out _ _ ⟨hHeld.1,hHeld.2⟩ (fun hHeld=>?_)
               clear hK K
               refine norm_ (a':=?_) ?_ ?_
               rotate_left
               ·
                show Act.put _ (some 51) _=_
                simp only [Act.put,List.setIfInBounds_toArray,List.set_cons_zero,List.set_cons_succ,i64_w,i32_w]
                rfl
               refine one_ (i:=4) (N:=some 53) #[true,true,true,true,true,false,true,false,false,false,true,true,true,true,true,true,true,true,false,true,true,true,true,false,true,true,true,true,false,false] rfl rfl (one_of HT_.out (by kernel_rfl)) (by decide) (fun K hK=>?_)
               refine goes_ Try.func86 (by kernel_rfl) rfl #[.int .u32 x11_1,.int .u64 11] (by rfl) rfl rfl (by (try simp only [List.map_toArray,List.map_cons,List.map_nil]);first|done|rfl|(simp only [List.length_drop,List.length_take];rfl)) ?_
               with_reducible refine (mosaicref01_rotr.calls x11_1 11 t174 _ A19.out).mono ?_
               rintro e w' ⟨rfl,⟨nd,rfl⟩⟩
               refine ⟨_,rfl,?_⟩
               refine hK.out _ _ ⟨hHeld.1,hHeld.2⟩ (fun hHeld=>?_)
               clear hK K
               refine norm_ (a':=?_) ?_ ?_
               rotate_left
               ·
                show Act.put _ (some 53) _=_
                simp only [Act.put,List.setIfInBounds_toArray,List.set_cons_zero,List.set_cons_succ,i64_w,i32_w]
                rfl
               refine pure_ (i:=5) (N:=some 54) (v:=?_) (a':=?_) #[true,true,true,true,true,true,true,false,false,false,true,true,true,true,true,true,true,true,false,true,true,true,true,false,true,true,true,true,false,false] rfl rfl (any_of HT_.out (by kernel_rfl)) (fun _ _ _ h=>h) (Or.inl ⟨by rfl,?_⟩) ?_ ?_
               rotate_left
               ·
                intro w'
                go_simp
                with_reducible rfl
               rotate_left
               ·
                simp only [Act.put,List.setIfInBounds_toArray,List.set_cons_zero,List.set_cons_succ,i64_w,i32_w]
                rfl
               refine one_ (i:=7) (N:=some 56) #[true,true,true,true,true,true,true,true,false,false,true,true,true,true,true,true,true,true,false,true,true,true,true,false,true,true,true,true,false,false] rfl rfl (one_of HT_.out (by kernel_rfl)) (by decide) (fun K hK=>?_)
               refine goes_ Try.func86 (by kernel_rfl) rfl #[.int .u32 x11_1,.int .u64 25] (by rfl) rfl rfl (by (try simp only [List.map_toArray,List.map_cons,List.map_nil]);first|done|rfl|(simp only [List.length_drop,List.length_take];rfl)) ?_
               with_reducible refine (mosaicref01_rotr.calls x11_1 25 t175 _ A20.out).mono ?_
               rintro e w' ⟨rfl,⟨nd,rfl⟩⟩
               refine ⟨_,rfl,?_⟩
               refine hK.out _ _ ⟨hHeld.1,hHeld.2⟩ (fun hHeld=>?_)
               clear hK K
               refine norm_ (a':=?_) ?_ ?_
               rotate_left
               ·
                show Act.put _ (some 56) _=_
                simp only [Act.put,List.setIfInBounds_toArray,List.set_cons_zero,List.set_cons_succ,i64_w,i32_w]
                rfl
               refine pure_ (i:=8) (N:=some 57) (v:=?_) (a':=?_) #[true,true,true,true,true,true,true,true,true,false,true,true,true,true,true,true,true,true,false,true,true,true,true,false,true,true,true,true,false,false] rfl rfl (any_of HT_.out (by kernel_rfl)) (fun _ _ _ h=>h) (Or.inl ⟨by rfl,?_⟩) ?_ ?_
               rotate_left
               ·
                intro w'
                go_simp
                with_reducible rfl
               rotate_left
               ·
                simp only [Act.put,List.setIfInBounds_toArray,List.set_cons_zero,List.set_cons_succ,i64_w,i32_w]
                rfl
               refine pure_ (i:=9) (N:=some 58) (v:=?_) (a':=?_) #[true,true,true,true,true,true,true,true,true,true,true,true,true,true,true,true,true,true,false,true,true,true,true,false,true,true,true,true,false,false] rfl rfl (any_of HT_.out (by kernel_rfl)) (fun _ _ _ h=>h) (Or.inl ⟨by rfl,?_⟩) ?_ ?_
               rotate_left
               ·
                intro w'
                go_simp
                with_reducible rfl
               rotate_left
               ·
                simp only [Act.put,List.setIfInBounds_toArray,List.set_cons_zero,List.set_cons_succ,i64_w,i32_w]
                rfl
               refine pure_ (i:=18) (N:=some 67) (v:=?_) (a':=?_) #[true,true,true,true,true,true,true,true,true,true,true,true,true,true,true,true,true,true,true,true,true,true,true,false,true,true,true,true,false,false] rfl rfl (any_of HT_.out (by kernel_rfl)) (fun _ _ _ h=>h) (Or.inl ⟨by rfl,?_⟩) ?_ ?_
               rotate_left
               ·
                intro w'
                go_simp
                with_reducible rfl
               rotate_left
               ·
                simp only [Act.put,List.setIfInBounds_toArray,List.set_cons_zero,List.set_cons_succ,i64_w,i32_w]
                rfl
               refine pure_ (i:=23) (N:=some 72) (v:=?_) (a':=?_) #[true,true,true,true,true,true,true,true,true,true,true,true,true,true,true,true,true,true,true,true,true,true,true,true,true,true,true,true,false,false] rfl rfl (any_of HT_.out (by kernel_rfl)) (fun _ _ _ h=>h) (Or.inl ⟨by rfl,?_⟩) ?_ ?_
               rotate_left
               ·
                intro w'
                go_simp
                with_reducible rfl
               rotate_left
               ·
                simp only [Act.put,List.setIfInBounds_toArray,List.set_cons_zero,List.set_cons_succ,i64_w,i32_w]
                rfl
               refine pure_ (i:=28) (N:=some 77) (v:=?_) (a':=?_) #[true,true,true,true,true,true,true,true,true,true,true,true,true,true,true,true,true,true,true,true,true,true,true,true,true,true,true,true,true,false] rfl rfl (any_of HT_.out (by kernel_rfl)) (fun _ _ _ h=>h) (Or.inl ⟨by rfl,?_⟩) ?_ ?_
               rotate_left
               ·
                intro w'
                go_simp
                with_reducible rfl
               rotate_left
               ·
                simp only [Act.put,List.setIfInBounds_toArray,List.set_cons_zero,List.set_cons_succ,i64_w,i32_w]
                rfl
               refine pure_ (i:=29) (N:=some 16) (v:=?_) (a':=?_) #[true,true,true,true,true,true,true,true,true,true,true,true,true,true,true,true,true,true,true,true,true,true,true,true,true,true,true,true,true,true] rfl rfl (any_of HT_.out (by kernel_rfl)) (fun _ _ _ h=>h) (Or.inl ⟨by rfl,?_⟩) ?_ ?_
               rotate_left
               ·
                intro w'
                go_simp
                with_reducible rfl
               rotate_left
               ·
                simp only [Act.put,List.setIfInBounds_toArray,List.set_cons_zero,List.set_cons_succ,i64_w,i32_w]
                rfl
               refine done_ (done_of HT_.out (by kernel_rfl)) ?_
               try go_wp2_with (first|((with_reducible refine gate_callee (f:=86) rfl ?_);refine goesL_ (some 79) rfl rfl Try.func86 (by kernel_rfl) rfl #[.int .u32 x7_1,.int .u64 2] rfl (by (try simp only [List.map_toArray,List.map_cons,List.map_nil]);first|done|rfl|(simp only [List.length_drop,List.length_take];rfl)) ?_;(with_reducible refine (mosaicref01_rotr.calls x7_1 2 t178 _ A24.out).mono ?_);rintro e w' ⟨rfl,⟨nd,rfl⟩⟩;refine ⟨_,rfl,?_⟩)|((with_reducible refine gate_callee (f:=86) rfl ?_);refine goesL_ (some 81) rfl rfl Try.func86 (by kernel_rfl) rfl #[.int .u32 x7_1,.int .u64 13] rfl (by (try simp only [List.map_toArray,List.map_cons,List.map_nil]);first|done|rfl|(simp only [List.length_drop,List.length_take];rfl)) ?_;(with_reducible refine (mosaicref01_rotr.calls x7_1 13 t179 _ A25.out).mono ?_);rintro e w' ⟨rfl,⟨nd,rfl⟩⟩;refine ⟨_,rfl,?_⟩)|((with_reducible refine gate_callee (f:=86) rfl ?_);refine goesL_ (some 84) rfl rfl Try.func86 (by kernel_rfl) rfl #[.int .u32 x7_1,.int .u64 22] rfl (by (try simp only [List.map_toArray,List.map_cons,List.map_nil]);first|done|rfl|(simp only [List.length_drop,List.length_take];rfl)) ?_;(with_reducible refine (mosaicref01_rotr.calls x7_1 22 t180 _ A26.out).mono ?_);rintro e w' ⟨rfl,⟨nd,rfl⟩⟩;refine ⟨_,rfl,?_⟩))
               go_roundg k1
               case measure=>have:=HK1.out;omega
               case rel=>exact ⟨((((((((((x14_1+(Go.bits .xor .u32 (Go.bits .xor .u32 t173 t174) t175)) % 4294967296)+(Go.bits .xor .u32 (Go.bits .and .u32 x11_1 x12_1) (Go.bits .and .u32 (Go.bits .xor .u32 4294967295 x11_1) x13_1))) % 4294967296)+(rd t151 x15_1)) % 4294967296)+(rd t148 x15_1)) % 4294967296)+(((Go.bits .xor .u32 (Go.bits .xor .u32 t178 t179) t180)+(Go.bits .xor .u32 (Go.bits .xor .u32 (Go.bits .and .u32 x7_1 x8_1) (Go.bits .and .u32 x7_1 x9_1)) (Go.bits .and .u32 x8_1 x9_1))) % 4294967296)) % 4294967296),(x7_1),(x8_1),(x9_1),((x10_1+((((((((x14_1+(Go.bits .xor .u32 (Go.bits .xor .u32 t173 t174) t175)) % 4294967296)+(Go.bits .xor .u32 (Go.bits .and .u32 x11_1 x12_1) (Go.bits .and .u32 (Go.bits .xor .u32 4294967295 x11_1) x13_1))) % 4294967296)+(rd t151 x15_1)) % 4294967296)+(rd t148 x15_1)) % 4294967296)) % 4294967296),(x11_1),(x12_1),(x13_1),(wrap64 (x15_1+1)),(by first|rfl|(simp;done)|(simp [*];done)),(by first|rfl|(simp;done)|(simp [*];done)),(by first|rfl|(simp;done)|(simp [*];done)),(by first|rfl|(simp;done)|(simp [*];done)),(by first|rfl|(simp;done)|(simp [*];done)),(by first|rfl|(simp;done)|(simp [*];done)),(by first|rfl|(simp;done)|(simp [*];done)),(by first|rfl|(simp;done)|(simp [*];done)),(by first|rfl|(simp;done)|(simp [*];done)),H',⟨by have:=HK1.out;omega⟩,⟨by (with_reducible repeat (first|apply Kd.R_alloc|apply Kd.R_drewN|apply Kd.R_drew));exact HO_5.out⟩,⟨by (with_reducible repeat (first|apply Kd.R_alloc|apply Kd.R_drewN|apply Kd.R_drew));exact HO_6.out⟩,⟨by repeat (first|(with_reducible first|exact HB.out|apply below_alloc|apply pw_below_drewN|apply below_drew1)|exact HB.out)⟩⟩
              ·
               rw [if_neg c23] at H
               exact absurd H (by simp)
             ·
              rw [if_neg c22] at H
              exact absurd H (by simp)
            ·
             rw [if_neg c21] at H
             exact absurd H (by simp)
           ·
            rw [if_neg c17] at H
            have c17b0:decide (x15_1 < 64)=false:=decide_eq_false c17
            clear c17
            by_cases c30:0 < (l0.length:Int)
            ·
             rw [if_pos c30] at H
             have c30b0:decide (0 < (l0.length:Int))=true:=decide_eq_true c30
             have c30b1:decide (0 < l0.length)=true:=decide_eq_true (by omega)
             clear c30
             by_cases c31:1 < (l0.length:Int)
             ·
              rw [if_pos c31] at H
              have c31b0:decide (1 < (l0.length:Int))=true:=decide_eq_true c31
              have c31b1:decide (1 < l0.length)=true:=decide_eq_true (by omega)
              clear c31
              by_cases c32:2 < (l0.length:Int)
              ·
               rw [if_pos c32] at H
               have c32b0:decide (2 < (l0.length:Int))=true:=decide_eq_true c32
               have c32b1:decide (2 < l0.length)=true:=decide_eq_true (by omega)
               clear c32
               by_cases c33:3 < (l0.length:Int)
               ·
                rw [if_pos c33] at H
                have c33b0:decide (3 < (l0.length:Int))=true:=decide_eq_true c33
                have c33b1:decide (3 < l0.length)=true:=decide_eq_true (by omega)
                clear c33
                by_cases c34:4 < (l0.length:Int)
                ·
                 rw [if_pos c34] at H
                 have c34b0:decide (4 < (l0.length:Int))=true:=decide_eq_true c34
                 have c34b1:decide (4 < l0.length)=true:=decide_eq_true (by omega)
                 clear c34
                 by_cases c35:5 < (l0.length:Int)
                 ·
                  rw [if_pos c35] at H
                  have c35b0:decide (5 < (l0.length:Int))=true:=decide_eq_true c35
                  have c35b1:decide (5 < l0.length)=true:=decide_eq_true (by omega)
                  clear c35
                  by_cases c36:6 < (l0.length:Int)
                  ·
                   rw [if_pos c36] at H
                   have c36b0:decide (6 < (l0.length:Int))=true:=decide_eq_true c36
                   have c36b1:decide (6 < l0.length)=true:=decide_eq_true (by omega)
                   clear c36
                   by_cases c37:7 < (l0.length:Int)
                   ·
                    rw [if_pos c37] at H
                    have c37b0:decide (7 < (l0.length:Int))=true:=decide_eq_true c37
                    have c37b1:decide (7 < l0.length)=true:=decide_eq_true (by omega)
                    clear c37
                    obtain ⟨y170,hy170⟩:∃ y_:List Int,y_=(([((rd l0 0)+x7_1) % 4294967296,((rd l0 1)+x8_1) % 4294967296,((rd l0 2)+x9_1) % 4294967296,((rd l0 3)+x10_1) % 4294967296,((rd l0 4)+x11_1) % 4294967296,((rd l0 5)+x12_1) % 4294967296,((rd l0 6)+x13_1) % 4294967296,((rd l0 7)+x14_1) % 4294967296]:List Int)):=⟨_,rfl⟩
                    replace H:(some y170)=some r:=by first|(rw [hy170];with_reducible exact H)|(have H2_:=(Option.bind_some _ _).symm.trans H;rw [hy170];with_reducible exact H2_)|(have H2_:=(Option.bind_some _ _).symm.trans H;with_reducible exact H2_)|with_reducible exact H|(rw [hy170];exact H)|exact H
                    have Ny170:=Aside0.mk hy170
                    clear hy170
                    obtain rfl:=Option.some.inj H
                    try go_wp2
                    have n0_:=Aside0.mk (Kd.R_drew HO_5.out)
                    have n1_:=Aside0.mk (Kd.R_drew HO_6.out)
                    have n2_:=Aside0.mk (below_drew1 HB.out)
                    clear HO_5
                    clear HO_6
                    clear HB
                    have HO_5:=n0_
                    have HO_6:=n1_
                    have HB:=n2_
                    clear n0_ n1_ n2_
                    have p162:0≤(0:Int):=(by omega)
                    have q162:0 < (l0.length:Int):=of_decide_eq_true (by first|(with_reducible assumption)|assumption)
                    obtain ⟨ad162,e162,hx162_0⟩:=Kd.at_int HR0.out 0 p162 q162
                    have hw162_0:=hx162_0
                    (try rw [show ((0:Int)).toNat=0 from rfl] at hw162_0)
                    (try rw [show 0 * 1=0 from rfl] at hw162_0)
                    (try rw [Addr.add_zero'] at hw162_0)
                    obtain rfl:ad154=ad162:=(by injection e162)
                    have qi162:(0 < l0.length)=True:=eq_true (by omega)
                    (try rw [show ((0:Int)).toNat=0 from rfl] at hx162_0)
                    (try rw [Addr.add_zero'] at hx162_0)
                    replace hx162_0:=(HB.out.cell (World.block_lt_of_cell? w _ hx162_0)).trans hx162_0
                    replace p162:=eq_true p162
                    replace q162:=eq_true q162
                    have p163:0≤(1:Int):=(by omega)
                    have q163:1 < (l0.length:Int):=of_decide_eq_true (by first|(with_reducible assumption)|assumption)
                    obtain ⟨ad163,e163,hx163_0⟩:=Kd.at_int HR0.out 1 p163 q163
                    have hw163_0:=hx163_0
                    (try rw [show ((1:Int)).toNat=1 from rfl] at hw163_0)
                    (try rw [show 1 * 1=1 from rfl] at hw163_0)
                    (try simp only [Nat.reduceMul,Nat.reduceEqDiff,Go.Addr.add,↓reduceIte] at hw163_0)
                    obtain rfl:ad154=ad163:=(by injection e163)
                    (try simp only [show (1:Int).toNat=1 from rfl,Nat.reduceMul,Nat.reduceEqDiff,Go.Addr.add,↓reduceIte] at hx163_0)
                    have qi163:(1 < l0.length)=True:=eq_true (by omega)
                    (try rw [show ((1:Int)).toNat=1 from rfl] at hx163_0)
                    replace hx163_0:=(HB.out.cell (World.block_lt_of_cell? w _ hx163_0)).trans hx163_0
                    replace p163:=eq_true p163
                    replace q163:=eq_true q163
                    have p164:0≤(2:Int):=(by omega)
                    have q164:2 < (l0.length:Int):=of_decide_eq_true (by first|(with_reducible assumption)|assumption)
                    obtain ⟨ad164,e164,hx164_0⟩:=Kd.at_int HR0.out 2 p164 q164
                    have hw164_0:=hx164_0
                    (try rw [show ((2:Int)).toNat=2 from rfl] at hw164_0)
                    (try rw [show 2 * 1=2 from rfl] at hw164_0)
                    (try simp only [Nat.reduceMul,Nat.reduceEqDiff,Go.Addr.add,↓reduceIte] at hw164_0)
                    obtain rfl:ad154=ad164:=(by injection e164)
                    (try simp only [show (2:Int).toNat=2 from rfl,Nat.reduceMul,Nat.reduceEqDiff,Go.Addr.add,↓reduceIte] at hx164_0)
                    have qi164:(2 < l0.length)=True:=eq_true (by omega)
                    (try rw [show ((2:Int)).toNat=2 from rfl] at hx164_0)
                    replace hx164_0:=(HB.out.cell (World.block_lt_of_cell? w _ hx164_0)).trans hx164_0
                    replace p164:=eq_true p164
                    replace q164:=eq_true q164
                    have p165:0≤(3:Int):=(by omega)
                    have q165:3 < (l0.length:Int):=of_decide_eq_true (by first|(with_reducible assumption)|assumption)
                    obtain ⟨ad165,e165,hx165_0⟩:=Kd.at_int HR0.out 3 p165 q165
                    have hw165_0:=hx165_0
                    (try rw [show ((3:Int)).toNat=3 from rfl] at hw165_0)
                    (try rw [show 3 * 1=3 from rfl] at hw165_0)
                    (try simp only [Nat.reduceMul,Nat.reduceEqDiff,Go.Addr.add,↓reduceIte] at hw165_0)
                    obtain rfl:ad154=ad165:=(by injection e165)
                    (try simp only [show (3:Int).toNat=3 from rfl,Nat.reduceMul,Nat.reduceEqDiff,Go.Addr.add,↓reduceIte] at hx165_0)
                    have qi165:(3 < l0.length)=True:=eq_true (by omega)
                    (try rw [show ((3:Int)).toNat=3 from rfl] at hx165_0)
                    replace hx165_0:=(HB.out.cell (World.block_lt_of_cell? w _ hx165_0)).trans hx165_0
                    replace p165:=eq_true p165
                    replace q165:=eq_true q165
                    have p166:0≤(4:Int):=(by omega)
                    have q166:4 < (l0.length:Int):=of_decide_eq_true (by first|(with_reducible assumption)|assumption)
                    obtain ⟨ad166,e166,hx166_0⟩:=Kd.at_int HR0.out 4 p166 q166
                    have hw166_0:=hx166_0
                    (try rw [show ((4:Int)).toNat=4 from rfl] at hw166_0)
                    (try rw [show 4 * 1=4 from rfl] at hw166_0)
                    (try simp only [Nat.reduceMul,Nat.reduceEqDiff,Go.Addr.add,↓reduceIte] at hw166_0)
                    obtain rfl:ad154=ad166:=(by injection e166)
                    (try simp only [show (4:Int).toNat=4 from rfl,Nat.reduceMul,Nat.reduceEqDiff,Go.Addr.add,↓reduceIte] at hx166_0)
                    have qi166:(4 < l0.length)=True:=eq_true (by omega)
                    (try rw [show ((4:Int)).toNat=4 from rfl] at hx166_0)
                    replace hx166_0:=(HB.out.cell (World.block_lt_of_cell? w _ hx166_0)).trans hx166_0
                    replace p166:=eq_true p166
                    replace q166:=eq_true q166
                    have p167:0≤(5:Int):=(by omega)
                    have q167:5 < (l0.length:Int):=of_decide_eq_true (by first|(with_reducible assumption)|assumption)
                    obtain ⟨ad167,e167,hx167_0⟩:=Kd.at_int HR0.out 5 p167 q167
                    have hw167_0:=hx167_0
                    (try rw [show ((5:Int)).toNat=5 from rfl] at hw167_0)
                    (try rw [show 5 * 1=5 from rfl] at hw167_0)
                    (try simp only [Nat.reduceMul,Nat.reduceEqDiff,Go.Addr.add,↓reduceIte] at hw167_0)
                    obtain rfl:ad154=ad167:=(by injection e167)
                    (try simp only [show (5:Int).toNat=5 from rfl,Nat.reduceMul,Nat.reduceEqDiff,Go.Addr.add,↓reduceIte] at hx167_0)
                    have qi167:(5 < l0.length)=True:=eq_true (by omega)
                    (try rw [show ((5:Int)).toNat=5 from rfl] at hx167_0)
                    replace hx167_0:=(HB.out.cell (World.block_lt_of_cell? w _ hx167_0)).trans hx167_0
                    replace p167:=eq_true p167
                    replace q167:=eq_true q167
                    have p168:0≤(6:Int):=(by omega)
                    have q168:6 < (l0.length:Int):=of_decide_eq_true (by first|(with_reducible assumption)|assumption)
                    obtain ⟨ad168,e168,hx168_0⟩:=Kd.at_int HR0.out 6 p168 q168
                    have hw168_0:=hx168_0
                    (try rw [show ((6:Int)).toNat=6 from rfl] at hw168_0)
                    (try rw [show 6 * 1=6 from rfl] at hw168_0)
                    (try simp only [Nat.reduceMul,Nat.reduceEqDiff,Go.Addr.add,↓reduceIte] at hw168_0)
                    obtain rfl:ad154=ad168:=(by injection e168)
                    (try simp only [show (6:Int).toNat=6 from rfl,Nat.reduceMul,Nat.reduceEqDiff,Go.Addr.add,↓reduceIte] at hx168_0)
                    have qi168:(6 < l0.length)=True:=eq_true (by omega)
                    (try rw [show ((6:Int)).toNat=6 from rfl] at hx168_0)
                    replace hx168_0:=(HB.out.cell (World.block_lt_of_cell? w _ hx168_0)).trans hx168_0
                    replace p168:=eq_true p168
                    replace q168:=eq_true q168
                    have p169:0≤(7:Int):=(by omega)
                    have q169:7 < (l0.length:Int):=of_decide_eq_true (by first|(with_reducible assumption)|assumption)
                    obtain ⟨ad169,e169,hx169_0⟩:=Kd.at_int HR0.out 7 p169 q169
                    have hw169_0:=hx169_0
                    (try rw [show ((7:Int)).toNat=7 from rfl] at hw169_0)
                    (try rw [show 7 * 1=7 from rfl] at hw169_0)
                    (try simp only [Nat.reduceMul,Nat.reduceEqDiff,Go.Addr.add,↓reduceIte] at hw169_0)
                    obtain rfl:ad154=ad169:=(by injection e169)
                    (try simp only [show (7:Int).toNat=7 from rfl,Nat.reduceMul,Nat.reduceEqDiff,Go.Addr.add,↓reduceIte] at hx169_0)
                    have qi169:(7 < l0.length)=True:=eq_true (by omega)
                    (try rw [show ((7:Int)).toNat=7 from rfl] at hx169_0)
                    replace hx169_0:=(HB.out.cell (World.block_lt_of_cell? w _ hx169_0)).trans hx169_0
                    replace p169:=eq_true p169
                    replace q169:=eq_true q169
                    refine start_ (n:=42) (S:=fun w'=>w'.cell? ad154=some (.int .u32 (rd l0 0))∧w'.cell? ⟨ad154.block,ad154.off+1,none⟩=some (.int .u32 (rd l0 1))∧w'.cell? ⟨ad154.block,ad154.off+2,none⟩=some (.int .u32 (rd l0 2))∧w'.cell? ⟨ad154.block,ad154.off+3,none⟩=some (.int .u32 (rd l0 3))∧w'.cell? ⟨ad154.block,ad154.off+4,none⟩=some (.int .u32 (rd l0 4))∧w'.cell? ⟨ad154.block,ad154.off+5,none⟩=some (.int .u32 (rd l0 5))∧w'.cell? ⟨ad154.block,ad154.off+6,none⟩=some (.int .u32 (rd l0 6))∧w'.cell? ⟨ad154.block,ad154.off+7,none⟩=some (.int .u32 (rd l0 7))) (ds:=[]) #[false,false,false,false,false,false,false,false,false,false,false,false,false,false,false,false,false,false,false,false,false,false,false,false,false,false,false,false,false,false,false,false,false,false,false,false,false,false,false,false,false,false] (by kernel_rfl) rfl rfl ⟨((HB.out.cell (World.block_lt_of_cell? w _ hw162_0)).trans hw162_0),((HB.out.cell (World.block_lt_of_cell? w _ hw163_0)).trans hw163_0),((HB.out.cell (World.block_lt_of_cell? w _ hw164_0)).trans hw164_0),((HB.out.cell (World.block_lt_of_cell? w _ hw165_0)).trans hw165_0),((HB.out.cell (World.block_lt_of_cell? w _ hw166_0)).trans hw166_0),((HB.out.cell (World.block_lt_of_cell? w _ hw167_0)).trans hw167_0),((HB.out.cell (World.block_lt_of_cell? w _ hw168_0)).trans hw168_0),((HB.out.cell (World.block_lt_of_cell? w _ hw169_0)).trans hw169_0)⟩ (fun hHeld=>?_);refine with_tabW mosaicref01_Mix.tab18 mosaicref01_Mix.bits18 (fun HT_ HW_=>?_)
                    generalize wr.drew=w38 at HO_5 HO_6 HB hx162_0 hx163_0 hx164_0 hx165_0 hx166_0 hx167_0 hx168_0 hx169_0 hHeld ⊢
                    refine pure_ (i:=0) (N:=some 110) (v:=?_) (a':=?_) #[true,false,false,false,false,false,false,false,false,false,false,false,false,false,false,false,false,false,false,false,false,false,false,false,false,false,false,false,false,false,false,false,false,false,false,false,false,false,false,false,false,false] rfl rfl (any_of HT_.out (by kernel_rfl)) (fun _ _ _ h=>h) (Or.inl ⟨by rfl,?_⟩) ?_ ?_
                    rotate_left
                    ·
                     intro w'
                     go_simp
                     with_reducible rfl
                    rotate_left
                    ·
                     simp only [Act.put,List.setIfInBounds_toArray,List.set_cons_zero,List.set_cons_succ,i64_w,i32_w]
                     rfl
                    refine pure_ (i:=1) (N:=some 111) (v:=?_) (a':=?_) #[true,true,false,false,false,false,false,false,false,false,false,false,false,false,false,false,false,false,false,false,false,false,false,false,false,false,false,false,false,false,false,false,false,false,false,false,false,false,false,false,false,false] rfl rfl (any_of HT_.out (by kernel_rfl)) (fun _ _ _ h=>h) (Or.inl ⟨by rfl,?_⟩) ?_ ?_
                    rotate_left
                    ·
                     intro w'
                     go_simp
                     with_reducible rfl
                    rotate_left
                    ·
                     simp only [Act.put,List.setIfInBounds_toArray,List.set_cons_zero,List.set_cons_succ,i64_w,i32_w]
                     rfl
                    refine pure_ (i:=3) (N:=some 113) (v:=?_) (a':=?_) #[true,true,false,true,false,false,false,false,false,false,false,false,false,false,false,false,false,false,false,false,false,false,false,false,false,false,false,false,false,false,false,false,false,false,false,false,false,false,false,false,false,false] rfl rfl (any_of HT_.out (by kernel_rfl)) (fun _ _ _ h=>h) (Or.inl ⟨by rfl,?_⟩) ?_ ?_
                    rotate_left
                    ·
                     intro w'
                     go_simp
                     with_reducible rfl
                    rotate_left
                    ·
                     simp only [Act.put,List.setIfInBounds_toArray,List.set_cons_zero,List.set_cons_succ,i64_w,i32_w]
                     rfl
                    refine pure_ (i:=5) (N:=some 115) (v:=?_) (a':=?_) #[true,true,false,true,false,true,false,false,false,false,false,false,false,false,false,false,false,false,false,false,false,false,false,false,false,false,false,false,false,false,false,false,false,false,false,false,false,false,false,false,false,false] rfl rfl (any_of HT_.out (by kernel_rfl)) (fun _ _ _ h=>h) (Or.inl ⟨by rfl,?_⟩) ?_ ?_
                    rotate_left
                    ·
                     intro w'
                     go_simp
                     with_reducible rfl
                    rotate_left
                    ·
                     simp only [Act.put,List.setIfInBounds_toArray,List.set_cons_zero,List.set_cons_succ,i64_w,i32_w]
                     rfl
                    refine pure_ (i:=6) (N:=some 116) (v:=?_) (a':=?_) #[true,true,false,true,false,true,true,false,false,false,false,false,false,false,false,false,false,false,false,false,false,false,false,false,false,false,false,false,false,false,false,false,false,false,false,false,false,false,false,false,false,false] rfl rfl (any_of HT_.out (by kernel_rfl)) (fun _ _ _ h=>h) (Or.inl ⟨by rfl,?_⟩) ?_ ?_
                    rotate_left
                    ·
                     intro w'
                     go_simp
                     with_reducible rfl
                    rotate_left
                    ·
                     simp only [Act.put,List.setIfInBounds_toArray,List.set_cons_zero,List.set_cons_succ,i64_w,i32_w]
                     rfl
                    refine pure_ (i:=8) (N:=some 118) (v:=?_) (a':=?_) #[true,true,false,true,false,true,true,false,true,false,false,false,false,false,false,false,false,false,false,false,false,false,false,false,false,false,false,false,false,false,false,false,false,false,false,false,false,false,false,false,false,false] rfl rfl (any_of HT_.out (by kernel_rfl)) (fun _ _ _ h=>h) (Or.inl ⟨by rfl,?_⟩) ?_ ?_
                    rotate_left
                    ·
                     intro w'
                     go_simp
                     with_reducible rfl
                    rotate_left
                    ·
                     simp only [Act.put,List.setIfInBounds_toArray,List.set_cons_zero,List.set_cons_succ,i64_w,i32_w]
                     rfl
                    refine pure_ (i:=10) (N:=some 120) (v:=?_) (a':=?_) #[true,true,false,true,false,true,true,false,true,false,true,false,false,false,false,false,false,false,false,false,false,false,false,false,false,false,false,false,false,false,false,false,false,false,false,false,false,false,false,false,false,false] rfl rfl (any_of HT_.out (by kernel_rfl)) (fun _ _ _ h=>h) (Or.inl ⟨by rfl,?_⟩) ?_ ?_
                    rotate_left
                    ·
                     intro w'
                     go_simp
                     with_reducible rfl
                    rotate_left
                    ·
                     simp only [Act.put,List.setIfInBounds_toArray,List.set_cons_zero,List.set_cons_succ,i64_w,i32_w]
                     rfl
                    refine pure_ (i:=11) (N:=some 121) (v:=?_) (a':=?_) #[true,true,false,true,false,true,true,false,true,false,true,true,false,false,false,false,false,false,false,false,false,false,false,false,false,false,false,false,false,false,false,false,false,false,false,false,false,false,false,false,false,false] rfl rfl (any_of HT_.out (by kernel_rfl)) (fun _ _ _ h=>h) (Or.inl ⟨by rfl,?_⟩) ?_ ?_
                    rotate_left
                    ·
                     intro w'
                     go_simp
                     with_reducible rfl
                    rotate_left
                    ·
                     simp only [Act.put,List.setIfInBounds_toArray,List.set_cons_zero,List.set_cons_succ,i64_w,i32_w]
                     rfl
                    refine pure_ (i:=13) (N:=some 123) (v:=?_) (a':=?_) #[true,true,false,true,false,true,true,false,true,false,true,true,false,true,false,false,false,false,false,false,false,false,false,false,false,false,false,false,false,false,false,false,false,false,false,false,false,false,false,false,false,false] rfl rfl (any_of HT_.out (by kernel_rfl)) (fun _ _ _ h=>h) (Or.inl ⟨by rfl,?_⟩) ?_ ?_
                    rotate_left
                    ·
                     intro w'
                     go_simp
                     with_reducible rfl
                    rotate_left
                    ·
                     simp only [Act.put,List.setIfInBounds_toArray,List.set_cons_zero,List.set_cons_succ,i64_w,i32_w]
                     rfl
                    refine pure_ (i:=15) (N:=some 125) (v:=?_) (a':=?_) #[true,true,false,true,false,true,true,false,true,false,true,true,false,true,false,true,false,false,false,false,false,false,false,false,false,false,false,false,false,false,false,false,false,false,false,false,false,false,false,false,false,false] rfl rfl (any_of HT_.out (by kernel_rfl)) (fun _ _ _ h=>h) (Or.inl ⟨by rfl,?_⟩) ?_ ?_
                    rotate_left
                    ·
                     intro w'
                     go_simp
                     with_reducible rfl
                    rotate_left
                    ·
                     simp only [Act.put,List.setIfInBounds_toArray,List.set_cons_zero,List.set_cons_succ,i64_w,i32_w]
                     rfl
                    refine pure_ (i:=16) (N:=some 126) (v:=?_) (a':=?_) #[true,true,false,true,false,true,true,false,true,false,true,true,false,true,false,true,true,false,false,false,false,false,false,false,false,false,false,false,false,false,false,false,false,false,false,false,false,false,false,false,false,false] rfl rfl (any_of HT_.out (by kernel_rfl)) (fun _ _ _ h=>h) (Or.inl ⟨by rfl,?_⟩) ?_ ?_
                    rotate_left
                    ·
                     intro w'
                     go_simp
                     with_reducible rfl
                    rotate_left
                    ·
                     simp only [Act.put,List.setIfInBounds_toArray,List.set_cons_zero,List.set_cons_succ,i64_w,i32_w]
                     rfl
                    refine pure_ (i:=18) (N:=some 128) (v:=?_) (a':=?_) #[true,true,false,true,false,true,true,false,true,false,true,true,false,true,false,true,true,false,true,false,false,false,false,false,false,false,false,false,false,false,false,false,false,false,false,false,false,false,false,false,false,false] rfl rfl (any_of HT_.out (by kernel_rfl)) (fun _ _ _ h=>h) (Or.inl ⟨by rfl,?_⟩) ?_ ?_
                    rotate_left
                    ·
                     intro w'
                     go_simp
                     with_reducible rfl
                    rotate_left
                    ·
                     simp only [Act.put,List.setIfInBounds_toArray,List.set_cons_zero,List.set_cons_succ,i64_w,i32_w]
                     rfl
                    refine pure_ (i:=20) (N:=some 130) (v:=?_) (a':=?_) #[true,true,false,true,false,true,true,false,true,false,true,true,false,true,false,true,true,false,true,false,true,false,false,false,false,false,false,false,false,false,false,false,false,false,false,false,false,false,false,false,false,false] rfl rfl (any_of HT_.out (by kernel_rfl)) (fun _ _ _ h=>h) (Or.inl ⟨by rfl,?_⟩) ?_ ?_
                    rotate_left
                    ·
                     intro w'
                     go_simp
                     with_reducible rfl
                    rotate_left
                    ·
                     simp only [Act.put,List.setIfInBounds_toArray,List.set_cons_zero,List.set_cons_succ,i64_w,i32_w]
                     rfl
                    refine pure_ (i:=21) (N:=some 131) (v:=?_) (a':=?_) #[true,true,false,true,false,true,true,false,true,false,true,true,false,true,false,true,true,false,true,false,true,true,false,false,false,false,false,false,false,false,false,false,false,false,false,false,false,false,false,false,false,false] rfl rfl (any_of HT_.out (by kernel_rfl)) (fun _ _ _ h=>h) (Or.inl ⟨by rfl,?_⟩) ?_ ?_
                    rotate_left
                    ·
                     intro w'
                     go_simp
                     with_reducible rfl
                    rotate_left
                    ·
                     simp only [Act.put,List.setIfInBounds_toArray,List.set_cons_zero,List.set_cons_succ,i64_w,i32_w]
                     rfl
                    refine pure_ (i:=23) (N:=some 133) (v:=?_) (a':=?_) #[true,true,false,true,false,true,true,false,true,false,true,true,false,true,false,true,true,false,true,false,true,true,false,true,false,false,false,false,false,false,false,false,false,false,false,false,false,false,false,false,false,false] rfl rfl (any_of HT_.out (by kernel_rfl)) (fun _ _ _ h=>h) (Or.inl ⟨by rfl,?_⟩) ?_ ?_
                    rotate_left
                    ·
                     intro w'
                     go_simp
                     with_reducible rfl
                    rotate_left
                    ·
                     simp only [Act.put,List.setIfInBounds_toArray,List.set_cons_zero,List.set_cons_succ,i64_w,i32_w]
                     rfl
                    refine pure_ (i:=25) (N:=some 135) (v:=?_) (a':=?_) #[true,true,false,true,false,true,true,false,true,false,true,true,false,true,false,true,true,false,true,false,true,true,false,true,false,true,false,false,false,false,false,false,false,false,false,false,false,false,false,false,false,false] rfl rfl (any_of HT_.out (by kernel_rfl)) (fun _ _ _ h=>h) (Or.inl ⟨by rfl,?_⟩) ?_ ?_
                    rotate_left
                    ·
                     intro w'
                     go_simp
                     with_reducible rfl
                    rotate_left
                    ·
                     simp only [Act.put,List.setIfInBounds_toArray,List.set_cons_zero,List.set_cons_succ,i64_w,i32_w]
                     rfl
                    refine pure_ (i:=26) (N:=some 136) (v:=?_) (a':=?_) #[true,true,false,true,false,true,true,false,true,false,true,true,false,true,false,true,true,false,true,false,true,true,false,true,false,true,true,false,false,false,false,false,false,false,false,false,false,false,false,false,false,false] rfl rfl (any_of HT_.out (by kernel_rfl)) (fun _ _ _ h=>h) (Or.inl ⟨by rfl,?_⟩) ?_ ?_
                    rotate_left
                    ·
                     intro w'
                     go_simp
                     with_reducible rfl
                    rotate_left
                    ·
                     simp only [Act.put,List.setIfInBounds_toArray,List.set_cons_zero,List.set_cons_succ,i64_w,i32_w]
                     rfl
                    refine pure_ (i:=28) (N:=some 138) (v:=?_) (a':=?_) #[true,true,false,true,false,true,true,false,true,false,true,true,false,true,false,true,true,false,true,false,true,true,false,true,false,true,true,false,true,false,false,false,false,false,false,false,false,false,false,false,false,false] rfl rfl (any_of HT_.out (by kernel_rfl)) (fun _ _ _ h=>h) (Or.inl ⟨by rfl,?_⟩) ?_ ?_
                    rotate_left
                    ·
                     intro w'
                     go_simp
                     with_reducible rfl
                    rotate_left
                    ·
                     simp only [Act.put,List.setIfInBounds_toArray,List.set_cons_zero,List.set_cons_succ,i64_w,i32_w]
                     rfl
                    refine pure_ (i:=30) (N:=some 140) (v:=?_) (a':=?_) #[true,true,false,true,false,true,true,false,true,false,true,true,false,true,false,true,true,false,true,false,true,true,false,true,false,true,true,false,true,false,true,false,false,false,false,false,false,false,false,false,false,false] rfl rfl (any_of HT_.out (by kernel_rfl)) (fun _ _ _ h=>h) (Or.inl ⟨by rfl,?_⟩) ?_ ?_
                    rotate_left
                    ·
                     intro w'
                     go_simp
                     with_reducible rfl
                    rotate_left
                    ·
                     simp only [Act.put,List.setIfInBounds_toArray,List.set_cons_zero,List.set_cons_succ,i64_w,i32_w]
                     rfl
                    refine pure_ (i:=31) (N:=some 141) (v:=?_) (a':=?_) #[true,true,false,true,false,true,true,false,true,false,true,true,false,true,false,true,true,false,true,false,true,true,false,true,false,true,true,false,true,false,true,true,false,false,false,false,false,false,false,false,false,false] rfl rfl (any_of HT_.out (by kernel_rfl)) (fun _ _ _ h=>h) (Or.inl ⟨by rfl,?_⟩) ?_ ?_
                    rotate_left
                    ·
                     intro w'
                     go_simp
                     with_reducible rfl
                    rotate_left
                    ·
                     simp only [Act.put,List.setIfInBounds_toArray,List.set_cons_zero,List.set_cons_succ,i64_w,i32_w]
                     rfl
                    refine pure_ (i:=33) (N:=some 143) (v:=?_) (a':=?_) #[true,true,false,true,false,true,true,false,true,false,true,true,false,true,false,true,true,false,true,false,true,true,false,true,false,true,true,false,true,false,true,true,false,true,false,false,false,false,false,false,false,false] rfl rfl (any_of HT_.out (by kernel_rfl)) (fun _ _ _ h=>h) (Or.inl ⟨by rfl,?_⟩) ?_ ?_
                    rotate_left
                    ·
                     intro w'
                     go_simp
                     with_reducible rfl
                    rotate_left
                    ·
                     simp only [Act.put,List.setIfInBounds_toArray,List.set_cons_zero,List.set_cons_succ,i64_w,i32_w]
                     rfl
                    refine pure_ (i:=35) (N:=some 145) (v:=?_) (a':=?_) #[true,true,false,true,false,true,true,false,true,false,true,true,false,true,false,true,true,false,true,false,true,true,false,true,false,true,true,false,true,false,true,true,false,true,false,true,false,false,false,false,false,false] rfl rfl (any_of HT_.out (by kernel_rfl)) (fun _ _ _ h=>h) (Or.inl ⟨by rfl,?_⟩) ?_ ?_
                    rotate_left
                    ·
                     intro w'
                     go_simp
                     with_reducible rfl
                    rotate_left
                    ·
                     simp only [Act.put,List.setIfInBounds_toArray,List.set_cons_zero,List.set_cons_succ,i64_w,i32_w]
                     rfl
                    refine pure_ (i:=36) (N:=some 146) (v:=?_) (a':=?_) #[true,true,false,true,false,true,true,false,true,false,true,true,false,true,false,true,true,false,true,false,true,true,false,true,false,true,true,false,true,false,true,true,false,true,false,true,true,false,false,false,false,false] rfl rfl (any_of HT_.out (by kernel_rfl)) (fun _ _ _ h=>h) (Or.inl ⟨by rfl,?_⟩) ?_ ?_
                    rotate_left
                    ·
                     intro w'
                     go_simp
                     with_reducible rfl
                    rotate_left
                    ·
                     simp only [Act.put,List.setIfInBounds_toArray,List.set_cons_zero,List.set_cons_succ,i64_w,i32_w]
                     rfl
                    refine pure_ (i:=38) (N:=some 148) (v:=?_) (a':=?_) #[true,true,false,true,false,true,true,false,true,false,true,true,false,true,false,true,true,false,true,false,true,true,false,true,false,true,true,false,true,false,true,true,false,true,false,true,true,false,true,false,false,false] rfl rfl (any_of HT_.out (by kernel_rfl)) (fun _ _ _ h=>h) (Or.inl ⟨by rfl,?_⟩) ?_ ?_
                    rotate_left
                    ·
                     intro w'
                     go_simp
                     with_reducible rfl
                    rotate_left
                    ·
                     simp only [Act.put,List.setIfInBounds_toArray,List.set_cons_zero,List.set_cons_succ,i64_w,i32_w]
                     rfl
                    refine take_ (i:=2) (N:=some 112) (v:=?_) (a':=?_) #[true,true,true,true,false,true,true,false,true,false,true,true,false,true,false,true,true,false,true,false,true,true,false,true,false,true,true,false,true,false,true,true,false,true,false,true,true,false,true,false,false,false] rfl rfl (take_ofW HT_.out HW_.out (by kernel_rfl)) (fun _ _ _ h=>h) (Or.inl ⟨by rfl,?_⟩) hHeld ?_ ?_
                    rotate_left
                    ·
                     rintro w' ⟨s0,s1,s2,s3,s4,s5,s6,s7⟩
                     go_simp
                     with_reducible rfl
                    rotate_left
                    ·
                     simp only [Act.put,List.setIfInBounds_toArray,List.set_cons_zero,List.set_cons_succ,i64_w,i32_w]
                     rfl
                    refine pure_ (i:=4) (N:=some 114) (v:=?_) (a':=?_) #[true,true,true,true,true,true,true,false,true,false,true,true,false,true,false,true,true,false,true,false,true,true,false,true,false,true,true,false,true,false,true,true,false,true,false,true,true,false,true,false,false,false] rfl rfl (any_of HT_.out (by kernel_rfl)) (fun _ _ _ h=>h) (Or.inl ⟨by rfl,?_⟩) ?_ ?_
                    rotate_left
                    ·
                     intro w'
                     go_simp
                     with_reducible rfl
                    rotate_left
                    ·
                     simp only [Act.put,List.setIfInBounds_toArray,List.set_cons_zero,List.set_cons_succ,i64_w,i32_w]
                     rfl
                    refine take_ (i:=7) (N:=some 117) (v:=?_) (a':=?_) #[true,true,true,true,true,true,true,true,true,false,true,true,false,true,false,true,true,false,true,false,true,true,false,true,false,true,true,false,true,false,true,true,false,true,false,true,true,false,true,false,false,false] rfl rfl (take_ofW HT_.out HW_.out (by kernel_rfl)) (fun _ _ _ h=>h) (Or.inl ⟨by rfl,?_⟩) hHeld ?_ ?_
                    rotate_left
                    ·
                     rintro w' ⟨s0,s1,s2,s3,s4,s5,s6,s7⟩
                     go_simp
                     with_reducible rfl
                    rotate_left
                    ·
                     simp only [Act.put,List.setIfInBounds_toArray,List.set_cons_zero,List.set_cons_succ,i64_w,i32_w]
                     rfl
                    refine pure_ (i:=9) (N:=some 119) (v:=?_) (a':=?_) #[true,true,true,true,true,true,true,true,true,true,true,true,false,true,false,true,true,false,true,false,true,true,false,true,false,true,true,false,true,false,true,true,false,true,false,true,true,false,true,false,false,false] rfl rfl (any_of HT_.out (by kernel_rfl)) (fun _ _ _ h=>h) (Or.inl ⟨by rfl,?_⟩) ?_ ?_
                    rotate_left
                    ·
                     intro w'
                     go_simp
                     with_reducible rfl
                    rotate_left
                    ·
                     simp only [Act.put,List.setIfInBounds_toArray,List.set_cons_zero,List.set_cons_succ,i64_w,i32_w]
                     rfl
                    refine take_ (i:=12) (N:=some 122) (v:=?_) (a':=?_) #[true,true,true,true,true,true,true,true,true,true,true,true,true,true,false,true,true,false,true,false,true,true,false,true,false,true,true,false,true,false,true,true,false,true,false,true,true,false,true,false,false,false] rfl rfl (take_ofW HT_.out HW_.out (by kernel_rfl)) (fun _ _ _ h=>h) (Or.inl ⟨by rfl,?_⟩) hHeld ?_ ?_
                    rotate_left
                    ·
                     rintro w' ⟨s0,s1,s2,s3,s4,s5,s6,s7⟩
                     go_simp
                     with_reducible rfl
                    rotate_left
                    ·
                     simp only [Act.put,List.setIfInBounds_toArray,List.set_cons_zero,List.set_cons_succ,i64_w,i32_w]
                     rfl
                    refine pure_ (i:=14) (N:=some 124) (v:=?_) (a':=?_) #[true,true,true,true,true,true,true,true,true,true,true,true,true,true,true,true,true,false,true,false,true,true,false,true,false,true,true,false,true,false,true,true,false,true,false,true,true,false,true,false,false,false] rfl rfl (any_of HT_.out (by kernel_rfl)) (fun _ _ _ h=>h) (Or.inl ⟨by rfl,?_⟩) ?_ ?_
                    rotate_left
                    ·
                     intro w'
                     go_simp
                     with_reducible rfl
                    rotate_left
                    ·
                     simp only [Act.put,List.setIfInBounds_toArray,List.set_cons_zero,List.set_cons_succ,i64_w,i32_w]
                     rfl
                    refine take_ (i:=17) (N:=some 127) (v:=?_) (a':=?_) #[true,true,true,true,true,true,true,true,true,true,true,true,true,true,true,true,true,true,true,false,true,true,false,true,false,true,true,false,true,false,true,true,false,true,false,true,true,false,true,false,false,false] rfl rfl (take_ofW HT_.out HW_.out (by kernel_rfl)) (fun _ _ _ h=>h) (Or.inl ⟨by rfl,?_⟩) hHeld ?_ ?_
                    rotate_left
                    ·
                     rintro w' ⟨s0,s1,s2,s3,s4,s5,s6,s7⟩
                     go_simp
                     with_reducible rfl
                    rotate_left
                    ·
                     simp only [Act.put,List.setIfInBounds_toArray,List.set_cons_zero,List.set_cons_succ,i64_w,i32_w]
                     rfl
                    refine pure_ (i:=19) (N:=some 129) (v:=?_) (a':=?_) #[true,true,true,true,true,true,true,true,true,true,true,true,true,true,true,true,true,true,true,true,true,true,false,true,false,true,true,false,true,false,true,true,false,true,false,true,true,false,true,false,false,false] rfl rfl (any_of HT_.out (by kernel_rfl)) (fun _ _ _ h=>h) (Or.inl ⟨by rfl,?_⟩) ?_ ?_
                    rotate_left
                    ·
                     intro w'
                     go_simp
                     with_reducible rfl
                    rotate_left
                    ·
                     simp only [Act.put,List.setIfInBounds_toArray,List.set_cons_zero,List.set_cons_succ,i64_w,i32_w]
                     rfl
                    refine take_ (i:=22) (N:=some 132) (v:=?_) (a':=?_) #[true,true,true,true,true,true,true,true,true,true,true,true,true,true,true,true,true,true,true,true,true,true,true,true,false,true,true,false,true,false,true,true,false,true,false,true,true,false,true,false,false,false] rfl rfl (take_ofW HT_.out HW_.out (by kernel_rfl)) (fun _ _ _ h=>h) (Or.inl ⟨by rfl,?_⟩) hHeld ?_ ?_
                    rotate_left
                    ·
                     rintro w' ⟨s0,s1,s2,s3,s4,s5,s6,s7⟩
                     go_simp
                     with_reducible rfl
                    rotate_left
                    ·
                     simp only [Act.put,List.setIfInBounds_toArray,List.set_cons_zero,List.set_cons_succ,i64_w,i32_w]
                     rfl
                    refine pure_ (i:=24) (N:=some 134) (v:=?_) (a':=?_) #[true,true,true,true,true,true,true,true,true,true,true,true,true,true,true,true,true,true,true,true,true,true,true,true,true,true,true,false,true,false,true,true,false,true,false,true,true,false,true,false,false,false] rfl rfl (any_of HT_.out (by kernel_rfl)) (fun _ _ _ h=>h) (Or.inl ⟨by rfl,?_⟩) ?_ ?_
                    rotate_left
                    ·
                     intro w'
                     go_simp
                     with_reducible rfl
                    rotate_left
                    ·
                     simp only [Act.put,List.setIfInBounds_toArray,List.set_cons_zero,List.set_cons_succ,i64_w,i32_w]
                     rfl
                    refine take_ (i:=27) (N:=some 137) (v:=?_) (a':=?_) #[true,true,true,true,true,true,true,true,true,true,true,true,true,true,true,true,true,true,true,true,true,true,true,true,true,true,true,true,true,false,true,true,false,true,false,true,true,false,true,false,false,false] rfl rfl (take_ofW HT_.out HW_.out (by kernel_rfl)) (fun _ _ _ h=>h) (Or.inl ⟨by rfl,?_⟩) hHeld ?_ ?_
                    rotate_left
                    ·
                     rintro w' ⟨s0,s1,s2,s3,s4,s5,s6,s7⟩
                     go_simp
                     with_reducible rfl
                    rotate_left
                    ·
                     simp only [Act.put,List.setIfInBounds_toArray,List.set_cons_zero,List.set_cons_succ,i64_w,i32_w]
                     rfl
                    refine pure_ (i:=29) (N:=some 139) (v:=?_) (a':=?_) #[true,true,true,true,true,true,true,true,true,true,true,true,true,true,true,true,true,true,true,true,true,true,true,true,true,true,true,true,true,true,true,true,false,true,false,true,true,false,true,false,false,false] rfl rfl (any_of HT_.out (by kernel_rfl)) (fun _ _ _ h=>h) (Or.inl ⟨by rfl,?_⟩) ?_ ?_
                    rotate_left
                    ·
                     intro w'
                     go_simp
                     with_reducible rfl
                    rotate_left
                    ·
                     simp only [Act.put,List.setIfInBounds_toArray,List.set_cons_zero,List.set_cons_succ,i64_w,i32_w]
                     rfl
                    refine take_ (i:=32) (N:=some 142) (v:=?_) (a':=?_) #[true,true,true,true,true,true,true,true,true,true,true,true,true,true,true,true,true,true,true,true,true,true,true,true,true,true,true,true,true,true,true,true,true,true,false,true,true,false,true,false,false,false] rfl rfl (take_ofW HT_.out HW_.out (by kernel_rfl)) (fun _ _ _ h=>h) (Or.inl ⟨by rfl,?_⟩) hHeld ?_ ?_
                    rotate_left
                    ·
                     rintro w' ⟨s0,s1,s2,s3,s4,s5,s6,s7⟩
                     go_simp
                     with_reducible rfl
                    rotate_left
                    ·
                     simp only [Act.put,List.setIfInBounds_toArray,List.set_cons_zero,List.set_cons_succ,i64_w,i32_w]
                     rfl
                    refine pure_ (i:=34) (N:=some 144) (v:=?_) (a':=?_) #[true,true,true,true,true,true,true,true,true,true,true,true,true,true,true,true,true,true,true,true,true,true,true,true,true,true,true,true,true,true,true,true,true,true,true,true,true,false,true,false,false,false] rfl rfl (any_of HT_.out (by kernel_rfl)) (fun _ _ _ h=>h) (Or.inl ⟨by rfl,?_⟩) ?_ ?_
                    rotate_left
                    ·
                     intro w'
                     go_simp
                     with_reducible rfl
                    rotate_left
                    ·
                     simp only [Act.put,List.setIfInBounds_toArray,List.set_cons_zero,List.set_cons_succ,i64_w,i32_w]
                     rfl
                    refine take_ (i:=37) (N:=some 147) (v:=?_) (a':=?_) #[true,true,true,true,true,true,true,true,true,true,true,true,true,true,true,true,true,true,true,true,true,true,true,true,true,true,true,true,true,true,true,true,true,true,true,true,true,true,true,false,false,false] rfl rfl (take_ofW HT_.out HW_.out (by kernel_rfl)) (fun _ _ _ h=>h) (Or.inl ⟨by rfl,?_⟩) hHeld ?_ ?_
                    rotate_left
                    ·
                     rintro w' ⟨s0,s1,s2,s3,s4,s5,s6,s7⟩
                     go_simp
                     with_reducible rfl
                    rotate_left
                    ·
                     simp only [Act.put,List.setIfInBounds_toArray,List.set_cons_zero,List.set_cons_succ,i64_w,i32_w]
                     rfl
                    refine pure_ (i:=39) (N:=some 149) (v:=?_) (a':=?_) #[true,true,true,true,true,true,true,true,true,true,true,true,true,true,true,true,true,true,true,true,true,true,true,true,true,true,true,true,true,true,true,true,true,true,true,true,true,true,true,true,false,false] rfl rfl (any_of HT_.out (by kernel_rfl)) (fun _ _ _ h=>h) (Or.inl ⟨by rfl,?_⟩) ?_ ?_
                    rotate_left
                    ·
                     intro w'
                     go_simp
                     with_reducible rfl
                    rotate_left
                    ·
                     simp only [Act.put,List.setIfInBounds_toArray,List.set_cons_zero,List.set_cons_succ,i64_w,i32_w]
                     rfl
                    refine one_ (i:=40) (N:=some 150) #[true,true,true,true,true,true,true,true,true,true,true,true,true,true,true,true,true,true,true,true,true,true,true,true,true,true,true,true,true,true,true,true,true,true,true,true,true,true,true,true,true,false] rfl rfl (one_of HT_.out (by kernel_rfl)) (by decide) (fun K hK=>?_)
                    refine Kd.R_lit_step (Kd.int .u32) _ 27 ?hg (N:=150) ?hd (xs:=([((rd l0 0)+x7_1) % 4294967296,((rd l0 1)+x8_1) % 4294967296,((rd l0 2)+x9_1) % 4294967296,((rd l0 3)+x10_1) % 4294967296,((rd l0 4)+x11_1) % 4294967296,((rd l0 5)+x12_1) % 4294967296,((rd l0 6)+x13_1) % 4294967296,((rd l0 7)+x14_1) % 4294967296]:List Int)) (inner:=[.int .u32 (((rd l0 0)+x7_1) % 4294967296),.int .u32 (((rd l0 1)+x8_1) % 4294967296),.int .u32 (((rd l0 2)+x9_1) % 4294967296),.int .u32 (((rd l0 3)+x10_1) % 4294967296),.int .u32 (((rd l0 4)+x11_1) % 4294967296),.int .u32 (((rd l0 5)+x12_1) % 4294967296),.int .u32 (((rd l0 6)+x13_1) % 4294967296),.int .u32 (((rd l0 7)+x14_1) % 4294967296)]) (ok:=fun _=>True) (okp:=fun _=>True) ?hr ?hp (fun _ hk=>hk) trivial (Below.refl _ _) (Nat.le_refl _) (by simp) ?_;(case hd=>rfl);(case hg=>rfl);(case hr=>first|(go_simp;done)|(go_simp;rfl));(case hp=>exact (Reps.one (show Kd.M (Kd.int .u32) _ _ _ (((rd l0 0)+x7_1) % 4294967296) [.int .u32 (((rd l0 0)+x7_1) % 4294967296)] from rfl) (Reps.one (show Kd.M (Kd.int .u32) _ _ _ (((rd l0 1)+x8_1) % 4294967296) [.int .u32 (((rd l0 1)+x8_1) % 4294967296)] from rfl) (Reps.one (show Kd.M (Kd.int .u32) _ _ _ (((rd l0 2)+x9_1) % 4294967296) [.int .u32 (((rd l0 2)+x9_1) % 4294967296)] from rfl) (Reps.one (show Kd.M (Kd.int .u32) _ _ _ (((rd l0 3)+x10_1) % 4294967296) [.int .u32 (((rd l0 3)+x10_1) % 4294967296)] from rfl) (Reps.one (show Kd.M (Kd.int .u32) _ _ _ (((rd l0 4)+x11_1) % 4294967296) [.int .u32 (((rd l0 4)+x11_1) % 4294967296)] from rfl) (Reps.one (show Kd.M (Kd.int .u32) _ _ _ (((rd l0 5)+x12_1) % 4294967296) [.int .u32 (((rd l0 5)+x12_1) % 4294967296)] from rfl) (Reps.one (show Kd.M (Kd.int .u32) _ _ _ (((rd l0 6)+x13_1) % 4294967296) [.int .u32 (((rd l0 6)+x13_1) % 4294967296)] from rfl) (Reps.one (show Kd.M (Kd.int .u32) _ _ _ (((rd l0 7)+x14_1) % 4294967296) [.int .u32 (((rd l0 7)+x14_1) % 4294967296)] from rfl) (Reps.none _ _))))))))))
                    intro v171 w39 ho40 hb hg_ hnew_
                    clear hg_ hnew_
                    (first|rw [← Ny170.out] at ho40|(simp only [Int.reduceToNat] at ho40;rw [← Ny170.out] at ho40))
                    have n0_:=Aside0.mk (Kd.R_elder' (by (with_reducible repeat (first|apply Kd.R_alloc|apply Kd.R_drewN|apply Kd.R_drew));exact HO_5.out) (Kd.R_base ho40) hb)
                    have n1_:=Aside0.mk (Kd.R_elder' (by (with_reducible repeat (first|apply Kd.R_alloc|apply Kd.R_drewN|apply Kd.R_drew));exact HO_6.out) (Kd.R_base ho40) hb)
                    have n2_:=Aside0.mk (Kd.R_lower (Kd.R_new' (Kd.R_new' ho40 (Kd.R_lt (by (with_reducible repeat (first|apply Kd.R_alloc|apply Kd.R_drewN|apply Kd.R_drew));exact HO_5.out))) (Kd.R_lt (by (with_reducible repeat (first|apply Kd.R_alloc|apply Kd.R_drewN|apply Kd.R_drew));exact HO_6.out))) (below_size (by repeat (first|(with_reducible first|exact HB.out|apply below_alloc|apply pw_below_drewN|apply below_drew1)|exact HB.out))))
                    have n3_:=Aside0.mk (below_step (by repeat (first|(with_reducible first|exact HB.out|apply below_alloc|apply pw_below_drewN|apply below_drew1)|exact HB.out)) hb)
                    clear HO_5
                    clear HO_6
                    clear HB
                    have HO_5:=n0_
                    have HO_6:=n1_
                    have HO172:=n2_
                    have HB:=n3_
                    clear n0_ n1_ n2_ n3_
                    clear hb ho40
                    refine hK.out _ _ ⟨((HB.out.cell (World.block_lt_of_cell? w _ hw162_0)).trans hw162_0),((HB.out.cell (World.block_lt_of_cell? w _ hw163_0)).trans hw163_0),((HB.out.cell (World.block_lt_of_cell? w _ hw164_0)).trans hw164_0),((HB.out.cell (World.block_lt_of_cell? w _ hw165_0)).trans hw165_0),((HB.out.cell (World.block_lt_of_cell? w _ hw166_0)).trans hw166_0),((HB.out.cell (World.block_lt_of_cell? w _ hw167_0)).trans hw167_0),((HB.out.cell (World.block_lt_of_cell? w _ hw168_0)).trans hw168_0),((HB.out.cell (World.block_lt_of_cell? w _ hw169_0)).trans hw169_0)⟩ (fun hHeld=>?_)
                    clear hK K
                    refine norm_ (a':=?_) ?_ ?_
                    rotate_left
                    ·
                     show Act.put _ (some 150) _=_
                     simp only [Act.put,List.setIfInBounds_toArray,List.set_cons_zero,List.set_cons_succ,i64_w,i32_w]
                     rfl
                    refine pure_ (i:=41) (N:=some 4) (v:=?_) (a':=?_) #[true,true,true,true,true,true,true,true,true,true,true,true,true,true,true,true,true,true,true,true,true,true,true,true,true,true,true,true,true,true,true,true,true,true,true,true,true,true,true,true,true,true] rfl rfl (any_of HT_.out (by kernel_rfl)) (fun _ _ _ h=>h) (Or.inl ⟨by rfl,?_⟩) ?_ ?_
                    rotate_left
                    ·
                     intro w'
                     go_simp
                     with_reducible rfl
                    rotate_left
                    ·
                     simp only [Act.put,List.setIfInBounds_toArray,List.set_cons_zero,List.set_cons_succ,i64_w,i32_w]
                     rfl
                    refine done_ (done_of HT_.out (by kernel_rfl)) ?_
                    try go_wp2
                    go_ret
                    exact ⟨_,by first|rfl|(simp [errW_none,errW_some] <;> rfl)|(simp [*,errW_none,errW_some] <;> rfl),by (with_reducible repeat (first|apply Kd.R_alloc|apply Kd.R_drewN|apply Kd.R_drew));exact Kd.R_mono HO172.out (fun _ hk=>trivial),by repeat (first|(with_reducible first|exact HB.out|apply below_alloc|apply pw_below_drewN|apply below_drew1)|exact HB.out)⟩
                   ·
                    rw [if_neg c37] at H
                    exact absurd H (by simp)
                  ·
                   rw [if_neg c36] at H
                   exact absurd H (by simp)
                 ·
                  rw [if_neg c35] at H
                  exact absurd H (by simp)
                ·
                 rw [if_neg c34] at H
                 exact absurd H (by simp)
               ·
                rw [if_neg c33] at H
                exact absurd H (by simp)
              ·
               rw [if_neg c32] at H
               exact absurd H (by simp)
             ·
              rw [if_neg c31] at H
              exact absurd H (by simp)
            ·
             rw [if_neg c30] at H
             exact absurd H (by simp)
        ·
         rw [if_neg c12] at H
         exact absurd H (by simp)
       ·
        rw [if_neg c11] at H
        exact absurd H (by simp)
      ·
       rw [if_neg c10] at H
       exact absurd H (by simp)
     ·
      rw [if_neg c9] at H
      exact absurd H (by simp)
    ·
     rw [if_neg c8] at H
     exact absurd H (by simp)
   ·
    rw [if_neg c7] at H
    exact absurd H (by simp)
  ·
   rw [if_neg c6] at H
   exact absurd H (by simp)
 ·
  rw [if_neg c5] at H
  exact absurd H (by simp)
end Go.Proofs.Ytelcaepenfjloaa.Print
/-! #### Pr35 -/
namespace Go.Proofs.Ytelcaepenfjloaa.Print
open Go.RowKit Go.Proofs.YtelcaepenfjloaaW.PrintWords Go.Proofs.YtelcaepenfjloaaW.PrintLast Go.Proofs.YtelcaepenfjloaaW.PrintMore
attribute [local go_sem] max2_int min2_int max_two min_two max_three min_three max_four min_four
set_option linter.unusedVariables false
set_option linter.unusedSimpArgs false
/-! ### mosaicref01_Start: function 35 -/
def mosaicref01_Start.f  : Option (List Int):=some (([1779033703,3144134277,1013904242,2773480762,1359893119,2600822924,528734635,1541459225]:List Int))
set_option maxHeartbeats 8000000 in
set_option maxRecDepth 100000 in
theorem mosaicref01_Start.calls  (r:List Int) (w:World) (h:mosaicref01_Start.f  = some r) :
  Calls Try.prog 35 #[] w fun e w'=>∃ v0_:Value,e=.returned (v0_)∧Kd.R (Kd.int .u32) 27 w' w.heap.size (fun _=>True) v0_ r∧Below w.heap.size w w':=by
 have HB:=Aside0.mk (Below.refl w.heap.size w)
 have H:(some (([1779033703,3144134277,1013904242,2773480762,1359893119,2600822924,528734635,1541459225]:List Int)))=some r:=h
 clear h
 obtain ⟨y181,hy181⟩:∃ y_:List Int,y_=(([1779033703,3144134277,1013904242,2773480762,1359893119,2600822924,528734635,1541459225]:List Int)):=⟨_,rfl⟩
 replace H:(some y181)=some r:=by first|(rw [hy181];with_reducible exact H)|(have H2_:=(Option.bind_some _ _).symm.trans H;rw [hy181];with_reducible exact H2_)|(have H2_:=(Option.bind_some _ _).symm.trans H;with_reducible exact H2_)|with_reducible exact H|(rw [hy181];exact H)|exact H
 have Ny181:=Aside0.mk hy181
 clear hy181
 obtain rfl:=Option.some.inj H
 go_enter Try.func35,Try.ntmps35
 go_wp2_with (first|((with_reducible refine gate_dst (N:=1) rfl ?_);refine Kd.R_lit (Kd.int .u32) _ 27 ?hg (N:=1) ?hd (xs:=([1779033703,3144134277,1013904242,2773480762,1359893119,2600822924,528734635,1541459225]:List Int)) (inner:=[.int .u32 1779033703,.int .u32 3144134277,.int .u32 1013904242,.int .u32 2773480762,.int .u32 1359893119,.int .u32 2600822924,.int .u32 528734635,.int .u32 1541459225]) (ok:=fun _=>True) (okp:=fun _=>True) ?hr ?hp (fun _ hk=>hk) trivial (Below.refl _ _) (Nat.le_refl _) (by simp) ?_;(case hd=>rfl);(case hg=>rfl);(case hr=>first|(go_simp;done)|(go_simp;rfl));(case hp=>exact (Reps.one (show Kd.M (Kd.int .u32) _ _ _ 1779033703 [.int .u32 1779033703] from rfl) (Reps.one (show Kd.M (Kd.int .u32) _ _ _ 3144134277 [.int .u32 3144134277] from rfl) (Reps.one (show Kd.M (Kd.int .u32) _ _ _ 1013904242 [.int .u32 1013904242] from rfl) (Reps.one (show Kd.M (Kd.int .u32) _ _ _ 2773480762 [.int .u32 2773480762] from rfl) (Reps.one (show Kd.M (Kd.int .u32) _ _ _ 1359893119 [.int .u32 1359893119] from rfl) (Reps.one (show Kd.M (Kd.int .u32) _ _ _ 2600822924 [.int .u32 2600822924] from rfl) (Reps.one (show Kd.M (Kd.int .u32) _ _ _ 528734635 [.int .u32 528734635] from rfl) (Reps.one (show Kd.M (Kd.int .u32) _ _ _ 1541459225 [.int .u32 1541459225] from rfl) (Reps.none _ _))))))))));intro v182 w1 ho2 hb hg_ hnew_;clear hg_ hnew_;(first|rw [← Ny181.out] at ho2|(simp only [Int.reduceToNat] at ho2;rw [← Ny181.out] at ho2));have n0_:=Aside0.mk (Kd.R_lower ho2 (below_size (by repeat (first|(with_reducible first|exact HB.out|apply below_alloc|apply pw_below_drewN|apply below_drew1)|exact HB.out))));have n1_:=Aside0.mk (below_step (by repeat (first|(with_reducible first|exact HB.out|apply below_alloc|apply pw_below_drewN|apply below_drew1)|exact HB.out)) hb);clear HB;have HO183:=n0_;have HB:=n1_;clear n0_ n1_;clear hb ho2))
 go_ret
 exact ⟨_,by first|rfl|(simp [errW_none,errW_some] <;> rfl)|(simp [*,errW_none,errW_some] <;> rfl),by (with_reducible repeat (first|apply Kd.R_alloc|apply Kd.R_drewN|apply Kd.R_drew));exact HO183.out,by repeat (first|(with_reducible first|exact HB.out|apply below_alloc|apply pw_below_drewN|apply below_drew1)|exact HB.out)⟩
end Go.Proofs.Ytelcaepenfjloaa.Print
/-! #### Pr27 -/
namespace Go.Proofs.Ytelcaepenfjloaa.Print
open Go.RowKit Go.Proofs.YtelcaepenfjloaaW.PrintWords Go.Proofs.YtelcaepenfjloaaW.PrintLast Go.Proofs.YtelcaepenfjloaaW.PrintMore
attribute [local go_sem] max2_int min2_int max_two min_two max_three min_three max_four min_four
set_option linter.unusedVariables false
set_option linter.unusedSimpArgs false
/-! ### mosaicref01_Sum: function 27 -/
mutual
def mosaicref01_Sum.l0:Nat→ByteArray→List Int→Int→Option (ByteArray)
 | 0,_,_,_=>none
 | k+1,x3,x4,x5=>if x5 < (x3.size:Int) then (if 0≤x5 then (if x5≤(wrap64 (x5+64)) then (if (wrap64 (x5+64))≤(x3.size:Int) then ((mosaicref01_Mix.f k x4 (x3.extract (x5:Int).toNat ((wrap64 (x5+64)):Int).toNat)).bind fun t188=>(mosaicref01_Sum.l0 k x3 t188 (wrap64 (x5+64)))) else (none)) else (none)) else (none)) else (mosaicref01_Sum.l1 k x4 ([]:List Int) 0)
def mosaicref01_Sum.l1:Nat→List Int→List Int→Int→Option (ByteArray)
 | 0,_,_,_=>none
 | k+1,x4,x6,x7=>if x7 < (x4.length:Int) then (if 0≤x7 then ((some (([((rd x4 x7) / 16777216) % 256,((rd x4 x7) / 65536) % 256,((rd x4 x7) / 256) % 256,(rd x4 x7) % 256]:List Int):List Int)).bind fun y192=>(if x6.length+y192.length < 140737488355328 then (mosaicref01_Sum.l1 k x4 (x6 ++ y192) (wrap64 (x7+1))) else (none))) else (none)) else (some (strOfNums x6))
end
def mosaicref01_Sum.f (k:Nat) (a0:ByteArray):Option (ByteArray):=if (a0.size:Int) > 65536 then (some (⟨#[]⟩:ByteArray)) else ((mosaicref01_Pad.f k (a0.size:Int)).bind fun t184=>(if a0.size+t184.size≤9223372036854775807 then ((mosaicref01_Start.f).bind fun t185=>(mosaicref01_Sum.l0 k (a0 ++ t184) t185 0)) else (none)))
theorem mosaicref01_Sum.mono_l:∀ k,(∀ y0 y1 y2,LeO (mosaicref01_Sum.l0 k y0 y1 y2) (mosaicref01_Sum.l0 (k+1) y0 y1 y2))∧(∀ y0 y1 y2,LeO (mosaicref01_Sum.l1 k y0 y1 y2) (mosaicref01_Sum.l1 (k+1) y0 y1 y2))
 | 0=>⟨fun _ _ _ r h=>by simp [mosaicref01_Sum.l0] at h,fun _ _ _ r h=>by simp [mosaicref01_Sum.l1] at h⟩
 | k+1=>by
  obtain ⟨ih0,ih1⟩:=mosaicref01_Sum.mono_l k
  refine ⟨?_,?_⟩
  ·
   intro y0 y1 y2
   unfold mosaicref01_Sum.l0
   repeat' first
   | (with_reducible exact ih0 _ _ _)
   | (with_reducible exact ih1 _ _ _)
   | (with_reducible exact mosaicref01_Mix.mono _ _ _)
   | (with_reducible exact mosaicref01_Pad.mono _ _)
   | (with_reducible exact LeO.refl _)
   | (with_reducible exact LeO.none _)
   | (with_reducible refine LeO.ite ?_ ?_)
   | (with_reducible refine LeO.bind ?_ (fun _=>?_))
   | exact ih0 _ _ _
   | exact ih1 _ _ _
   | exact mosaicref01_Mix.mono _ _ _
   | exact mosaicref01_Pad.mono _ _
   | exact LeO.none _
   | refine LeO.ite ?_ ?_
   | refine LeO.bind ?_ (fun _=>?_)
  ·
   intro y0 y1 y2
   unfold mosaicref01_Sum.l1
   repeat' first
   | (with_reducible exact ih0 _ _ _)
   | (with_reducible exact ih1 _ _ _)
   | (with_reducible exact mosaicref01_Mix.mono _ _ _)
   | (with_reducible exact mosaicref01_Pad.mono _ _)
   | (with_reducible exact LeO.refl _)
   | (with_reducible exact LeO.none _)
   | (with_reducible refine LeO.ite ?_ ?_)
   | (with_reducible refine LeO.bind ?_ (fun _=>?_))
   | exact ih0 _ _ _
   | exact ih1 _ _ _
   | exact mosaicref01_Mix.mono _ _ _
   | exact mosaicref01_Pad.mono _ _
   | exact LeO.none _
   | refine LeO.ite ?_ ?_
   | refine LeO.bind ?_ (fun _=>?_)
theorem mosaicref01_Sum.mono:∀ a0 k,LeO (mosaicref01_Sum.f k a0) (mosaicref01_Sum.f (k+1) a0):=by
 intro a0 k
 obtain ⟨ih0,ih1⟩:=mosaicref01_Sum.mono_l k
 unfold mosaicref01_Sum.f
 repeat' first
   | (with_reducible exact ih0 _ _ _)
   | (with_reducible exact ih1 _ _ _)
   | (with_reducible exact mosaicref01_Mix.mono _ _ _)
   | (with_reducible exact mosaicref01_Pad.mono _ _)
   | (with_reducible exact LeO.refl _)
   | (with_reducible exact LeO.none _)
   | (with_reducible refine LeO.ite ?_ ?_)
   | (with_reducible refine LeO.bind ?_ (fun _=>?_))
   | exact ih0 _ _ _
   | exact ih1 _ _ _
   | exact mosaicref01_Mix.mono _ _ _
   | exact mosaicref01_Pad.mono _ _
   | exact LeO.none _
   | refine LeO.ite ?_ ?_
   | refine LeO.bind ?_ (fun _=>?_)
set_option maxHeartbeats 8000000 in
set_option maxRecDepth 100000 in
theorem mosaicref01_Sum.calls (k:Nat) (a0:ByteArray) (r:ByteArray) (w:World) (h:mosaicref01_Sum.f k a0=some r) :
  Calls Try.prog 27 #[.string a0] w fun e w'=>e=.returned (.string r)∧Below w.heap.size w w':=by
 have HB:=Aside0.mk (Below.refl w.heap.size w)
 have H:(if (a0.size:Int) > 65536 then (some (⟨#[]⟩:ByteArray)) else ((mosaicref01_Pad.f k (a0.size:Int)).bind fun t184=>(if a0.size+t184.size≤9223372036854775807 then ((mosaicref01_Start.f).bind fun t185=>(mosaicref01_Sum.l0 k (a0 ++ t184) t185 0)) else (none))))=some r:=h
 clear h
 by_cases c2:(a0.size:Int) > 65536
 ·
  rw [if_pos c2] at H
  have c2b0:decide (65536 < (a0.size:Int))=true:=decide_eq_true c2
  have c2b1:decide (65536 < a0.size)=true:=decide_eq_true (by omega)
  clear c2
  obtain rfl:=Option.some.inj H
  go_enter Try.func27,Try.ntmps27
  go_wp2
  go_ret
  exact ⟨by first|rfl|(simp [errW_none,errW_some] <;> rfl)|(simp [*,errW_none,errW_some] <;> rfl),by repeat (first|(with_reducible first|exact HB.out|apply below_alloc|apply pw_below_drewN|apply below_drew1)|exact HB.out)⟩
 ·
  rw [if_neg c2] at H
  have c2b0:decide (65536 < (a0.size:Int))=false:=decide_eq_false c2
  have c2b1:decide (65536 < a0.size)=false:=decide_eq_false (by omega)
  clear c2
  replace H:=Option.bind_eq_some_iff.mp H
  obtain ⟨t184,A30,H⟩:=H
  replace H:(if a0.size+t184.size≤9223372036854775807 then ((mosaicref01_Start.f).bind fun t185=>(mosaicref01_Sum.l0 k (a0 ++ t184) t185 0)) else (none))=some r:=H
  have A3:=Aside0.mk A30
  clear A30
  by_cases c4:a0.size+t184.size≤9223372036854775807
  ·
   rw [if_pos c4] at H
   have c4b0:=eq_true c4
   have c4b1:decide (a0.size+t184.size≤9223372036854775807)=true:=decide_eq_true c4
   try have c4b2:(9223372036854775807 < a0.size+t184.size)=False:=eq_false (Nat.not_lt.2 c4)
   replace H:=Option.bind_eq_some_iff.mp H
   obtain ⟨t185,A50,H⟩:=H
   replace H:(mosaicref01_Sum.l0 k (a0 ++ t184) t185 0)=some r:=H
   have A5:=Aside0.mk A50
   clear A50
   have H':=Aside0.mk H
   clear H
   go_enter Try.func27,Try.ntmps27
   go_wp2_with (first|((with_reducible refine gate_callee (f:=29) rfl ?_);refine goesL_ (some 15) rfl rfl Try.func29 (by kernel_rfl) rfl #[.int .i64 (a0.size:Int)] rfl (by (try simp only [List.map_toArray,List.map_cons,List.map_nil]);first|done|rfl|(simp only [List.length_drop,List.length_take];rfl)) ?_;(with_reducible refine (mosaicref01_Pad.calls k (a0.size:Int) t184 _ A3.out).mono ?_);rintro e w6 ⟨rfl,hb⟩;refine ⟨_,rfl,?_⟩;have n0_:=Aside0.mk (below_step (by repeat (first|(with_reducible first|exact HB.out|apply below_alloc|apply pw_below_drewN|apply below_drew1)|exact HB.out)) hb);clear HB;have HB:=n0_;clear n0_;(try clear hb);(try clear hb2);(try clear hk);(try clear hi))|((with_reducible refine gate_callee (f:=35) rfl ?_);refine goesL_ (some 17) rfl rfl Try.func35 (by kernel_rfl) rfl #[] rfl (by (try simp only [List.map_toArray,List.map_cons,List.map_nil]);first|done|rfl|(simp only [List.length_drop,List.length_take];rfl)) ?_;(with_reducible refine (mosaicref01_Start.calls  t185 _ A5.out).mono ?_);rintro e w7 ⟨v186,rfl,ho0,hb⟩;refine ⟨_,rfl,?_⟩;have n0_:=Aside0.mk (Kd.R_lower ho0 (below_size (by repeat (first|(with_reducible first|exact HB.out|apply below_alloc|apply pw_below_drewN|apply below_drew1)|exact HB.out))));have n1_:=Aside0.mk (below_step (by repeat (first|(with_reducible first|exact HB.out|apply below_alloc|apply pw_below_drewN|apply below_drew1)|exact HB.out)) hb);clear HB;have HO187:=n0_;have HB:=n1_;clear n0_ n1_;(try clear hb);(try clear hb2);(try clear hk);(try clear hi);(try clear ho0)))
   obtain ⟨s184,hs184⟩:∃ s,s=a0 ++ t184:=⟨_,rfl⟩
   rw [← hs184] at H'
   rw [← hs184]
   clear hs184
   go_loopg [4,5] k (fun kq v4 v5 w'=>∃ (x4_1:List Int) (x5_1:Int),v5=.int .i64 x5_1∧Aside0 (mosaicref01_Sum.l0 kq (s184) x4_1 x5_1=some r)∧Aside0 (kq≤k)∧Aside0 (Kd.R (Kd.int .u32) 27 w' w.heap.size (fun _=>True) v4 x4_1)∧Aside0 (Below w.heap.size w w'))
   case atStart=>exact ⟨(t185),(0),(by first|rfl|(simp;done)|(simp [*];done)),H',⟨Nat.le_refl _⟩,⟨by (with_reducible repeat (first|apply Kd.R_alloc|apply Kd.R_drewN|apply Kd.R_drew));exact HO187.out⟩,⟨by repeat (first|(with_reducible first|exact HB.out|apply below_alloc|apply pw_below_drewN|apply below_drew1)|exact HB.out)⟩⟩
   case round =>
    clear H'
    try clear c2
    try clear c2b0
    try clear c2b1
    try clear p2
    try clear c3
    try clear c4
    try clear c4b0
    try clear c4b1
    try clear c4b2
    obtain ⟨x4_1,x5_1,rfl,HA,HK1,HO_4,HB⟩:=hrel
    cases gk with
    | zero=>exact absurd HA.out (by simp [mosaicref01_Sum.l0])
    | succ k1 =>
     have H:=HA.out
     clear HA
     simp only [mosaicref01_Sum.l0] at H
     by_cases c8:x5_1 < ((s184).size:Int)
     ·
      rw [if_pos c8] at H
      have c8b0:decide (x5_1 < ((s184).size:Int))=true:=decide_eq_true c8
      clear c8
      by_cases c9:0≤x5_1
      ·
       rw [if_pos c9] at H
       have c9b0:=eq_true c9
       have c9b1:decide (0≤x5_1)=true:=decide_eq_true c9
       clear c9
       by_cases c10:x5_1≤(wrap64 (x5_1+64))
       ·
        rw [if_pos c10] at H
        have c10b0:=eq_true c10
        have c10b1:decide (x5_1≤(wrap64 (x5_1+64)))=true:=decide_eq_true c10
        by_cases c11:(wrap64 (x5_1+64))≤((s184).size:Int)
        ·
         rw [if_pos c11] at H
         have c11b0:=eq_true c11
         have c11b1:decide ((wrap64 (x5_1+64))≤((s184).size:Int))=true:=decide_eq_true c11
         replace H:=Option.bind_eq_some_iff.mp H
         obtain ⟨t188,A120,H⟩:=H
         replace H:(mosaicref01_Sum.l0 k1 (s184) t188 (wrap64 (x5_1+64)))=some r:=H
         have A12:=Aside0.mk A120
         clear A120
         have H':=Aside0.mk H
         clear H
         obtain ⟨Ao13,co13,eo13⟩:=Kd.R_slice HO_4.out
         subst eo13
         go_wp2_with (first|((with_reducible refine gate_callee (f:=32) rfl ?_);refine goesL_ (some 30) rfl rfl Try.func32 (by kernel_rfl) rfl #[.slice Ao13 x4_1.length co13,.string ((s184).extract (x5_1:Int).toNat ((wrap64 (x5_1+64)):Int).toNat)] rfl (by (try simp only [List.map_toArray,List.map_cons,List.map_nil]);first|done|rfl|(simp only [List.length_drop,List.length_take];rfl)) ?_;(with_reducible refine (mosaicref01_Mix.calls k1 _ _ x4_1 ((s184).extract (x5_1:Int).toNat ((wrap64 (x5_1+64)):Int).toNat) t188 _ ?side1 ?side2 A12.out).mono ?_);(case side1=>repeat (first|exact (Kd.R_reads' HO_4.out).2.2|(with_reducible refine Kd.C_alloc ?_ _)|(with_reducible refine Kd.C_drewN ?_ _)|(with_reducible refine Kd.C_drew ?_)));(case side2=>exact (Kd.R_reads' HO_4.out).2.1);rintro e w14 ⟨v189,rfl,ho0,hb⟩;refine ⟨_,rfl,?_⟩;have n0_:=Aside0.mk (Kd.R_elder' (by (with_reducible repeat (first|apply Kd.R_alloc|apply Kd.R_drewN|apply Kd.R_drew));exact HO_4.out) (Kd.R_base ho0) hb);have n1_:=Aside0.mk (Kd.R_lower (Kd.R_new' ho0 (Kd.R_lt (by (with_reducible repeat (first|apply Kd.R_alloc|apply Kd.R_drewN|apply Kd.R_drew));exact HO_4.out))) (below_size (by repeat (first|(with_reducible first|exact HB.out|apply below_alloc|apply pw_below_drewN|apply below_drew1)|exact HB.out))));have n2_:=Aside0.mk (below_step (by repeat (first|(with_reducible first|exact HB.out|apply below_alloc|apply pw_below_drewN|apply below_drew1)|exact HB.out)) hb);clear HO_4;clear HB;have HO_4:=n0_;have HO190:=n1_;have HB:=n2_;clear n0_ n1_ n2_;(try clear hb);(try clear hb2);(try clear hk);(try clear hi);(try clear ho0)))
         go_roundg k1
         case measure=>have:=HK1.out;omega
         case rel=>exact ⟨(t188),(wrap64 (x5_1+64)),(by first|rfl|(simp;done)|(simp [*];done)),H',⟨by have:=HK1.out;omega⟩,⟨by (with_reducible repeat (first|apply Kd.R_alloc|apply Kd.R_drewN|apply Kd.R_drew));exact Kd.R_mono HO190.out (fun _ hk=>trivial)⟩,⟨by repeat (first|(with_reducible first|exact HB.out|apply below_alloc|apply pw_below_drewN|apply below_drew1)|exact HB.out)⟩⟩
        ·
         rw [if_neg c11] at H
         exact absurd H (by simp)
       ·
        rw [if_neg c10] at H
        exact absurd H (by simp)
      ·
       rw [if_neg c9] at H
       exact absurd H (by simp)
     ·
      rw [if_neg c8] at H
      have c8b0:decide (x5_1 < ((s184).size:Int))=false:=decide_eq_false c8
      clear c8
      have H':=Aside0.mk H
      clear H
      go_wp2
      go_loopg [6,7] k1 (fun kq v6 v7 w'=>∃ (x6_2:List Int) (x7_2:Int),v7=.int .i64 x7_2∧Aside0 (mosaicref01_Sum.l1 kq x4_1 x6_2 x7_2=some r)∧Aside0 (kq≤k1)∧Aside0 (Kd.R (Kd.int .u32) 27 w' w.heap.size (fun _=>True) u4 x4_1)∧Aside0 (Kd.R (Kd.int .u8) 5 w' w.heap.size (fun _=>True) v6 x6_2)∧Aside0 (Below w.heap.size w w'))
      case atStart=>exact ⟨(([]:List Int)),(0),(by first|rfl|(simp;done)|(simp [*];done)),H',⟨Nat.le_refl _⟩,⟨by (with_reducible repeat (first|apply Kd.R_alloc|apply Kd.R_drewN|apply Kd.R_drew));exact HO_4.out⟩,⟨by first|exact Kd.R_nil _ _ _ _ _|exact Kd.N_nil _ _ _ _ _|exact Kd.V_nil _ _ _ _ _|exact Kd.Q_nil _ _ _ _ _|exact Kd.S_nil _ _ _ _ _⟩,⟨by repeat (first|(with_reducible first|exact HB.out|apply below_alloc|apply pw_below_drewN|apply below_drew1)|exact HB.out)⟩⟩
      case round =>
       clear H'
       try clear c1
       try clear c2
       try clear c2b0
       try clear c2b1
       try clear p2
       try clear c3
       try clear c4
       try clear c4b0
       try clear c4b1
       try clear c4b2
       try clear p6
       try clear c8
       try clear c8b0
       try clear c9
       try clear c9b0
       try clear c9b1
       try clear c10
       try clear c10b0
       try clear c10b1
       try clear c11
       try clear c11b0
       try clear c11b1
       try clear p2
       obtain ⟨x6_2,x7_2,rfl,HA,HK2,HO_4,HO_6,HB⟩:=hrel
       cases gk with
       | zero=>exact absurd HA.out (by simp [mosaicref01_Sum.l1])
       | succ k2 =>
        have H:=HA.out
        clear HA
        simp only [mosaicref01_Sum.l1] at H
        by_cases c15:x7_2 < (x4_1.length:Int)
        ·
         rw [if_pos c15] at H
         have c15b0:decide (x7_2 < (x4_1.length:Int))=true:=decide_eq_true c15
         clear c15
         by_cases c16:0≤x7_2
         ·
          rw [if_pos c16] at H
          have c16b0:decide (0≤x7_2)=true:=decide_eq_true c16
          clear c16
          obtain ⟨y192,hy192⟩:∃ y_:List Int,y_=(([((rd x4_1 x7_2) / 16777216) % 256,((rd x4_1 x7_2) / 65536) % 256,((rd x4_1 x7_2) / 256) % 256,(rd x4_1 x7_2) % 256]:List Int)):=⟨_,rfl⟩
          replace H:(if x6_2.length+y192.length < 140737488355328 then (mosaicref01_Sum.l1 k2 x4_1 (x6_2 ++ y192) (wrap64 (x7_2+1))) else (none))=some r:=by first|(rw [hy192];with_reducible exact H)|(have H2_:=(Option.bind_some _ _).symm.trans H;rw [hy192];with_reducible exact H2_)|(have H2_:=(Option.bind_some _ _).symm.trans H;with_reducible exact H2_)|with_reducible exact H|(rw [hy192];exact H)|exact H
          have Ny192:=Aside0.mk hy192
          clear hy192
          by_cases c17:x6_2.length+y192.length < 140737488355328
          ·
           rw [if_pos c17] at H
           have LMc17:=Aside0.mk c17
           clear c17
           obtain ⟨y195,hy195⟩:∃ y_:List Int,y_=(x6_2 ++ y192):=⟨_,rfl⟩
           replace H:(mosaicref01_Sum.l1 k2 x4_1 y195 (wrap64 (x7_2+1)))=some r:=by first|(rw [hy195];with_reducible exact H)|(have H2_:=(Option.bind_some _ _).symm.trans H;rw [hy195];with_reducible exact H2_)|(have H2_:=(Option.bind_some _ _).symm.trans H;with_reducible exact H2_)|with_reducible exact H|(rw [hy195];exact H)|exact H
           have Ny195:=Aside0.mk hy195
           clear hy195
           have H':=Aside0.mk H
           clear H
           obtain ⟨Ao18,co18,eo18⟩:=Kd.R_slice HO_4.out
           subst eo18
           have p191:0≤(x7_2:Int):=of_decide_eq_true (by first|(with_reducible assumption)|assumption)
           have q191:x7_2 < (x4_1.length:Int):=of_decide_eq_true (by first|(with_reducible assumption)|assumption)
           obtain ⟨ad191,e191,hx191_0⟩:=Kd.at_int (Kd.R_reads' HO_4.out).2.2 x7_2 p191 q191
           cases e191
           replace p191:=eq_true p191
           replace q191:=eq_true q191
           go_wp2_with (first|((with_reducible refine gate_dst (N:=53) rfl ?_);refine Kd.R_lit (Kd.int .u8) _ 5 ?hg (N:=53) ?hd (xs:=([((rd x4_1 x7_2) / 16777216) % 256,((rd x4_1 x7_2) / 65536) % 256,((rd x4_1 x7_2) / 256) % 256,(rd x4_1 x7_2) % 256]:List Int)) (inner:=[.int .u8 (((rd x4_1 x7_2) / 16777216) % 256),.int .u8 (((rd x4_1 x7_2) / 65536) % 256),.int .u8 (((rd x4_1 x7_2) / 256) % 256),.int .u8 ((rd x4_1 x7_2) % 256)]) (ok:=fun _=>True) (okp:=fun _=>True) ?hr ?hp (fun _ hk=>hk) trivial (Below.refl _ _) (Nat.le_refl _) (by simp) ?_;(case hd=>rfl);(case hg=>rfl);(case hr=>first|(go_simp;done)|(go_simp;rfl));(case hp=>exact (Reps.one (show Kd.M (Kd.int .u8) _ _ _ (((rd x4_1 x7_2) / 16777216) % 256) [.int .u8 (((rd x4_1 x7_2) / 16777216) % 256)] from rfl) (Reps.one (show Kd.M (Kd.int .u8) _ _ _ (((rd x4_1 x7_2) / 65536) % 256) [.int .u8 (((rd x4_1 x7_2) / 65536) % 256)] from rfl) (Reps.one (show Kd.M (Kd.int .u8) _ _ _ (((rd x4_1 x7_2) / 256) % 256) [.int .u8 (((rd x4_1 x7_2) / 256) % 256)] from rfl) (Reps.one (show Kd.M (Kd.int .u8) _ _ _ ((rd x4_1 x7_2) % 256) [.int .u8 ((rd x4_1 x7_2) % 256)] from rfl) (Reps.none _ _))))));intro v193 w19 ho20 hb hg_ hnew_;clear hg_ hnew_;(first|rw [← Ny192.out] at ho20|(simp only [Int.reduceToNat] at ho20;rw [← Ny192.out] at ho20));have n0_:=Aside0.mk (Kd.R_below (by (with_reducible repeat (first|apply Kd.R_alloc|apply Kd.R_drewN|apply Kd.R_drew));exact HO_4.out) hb);have n1_:=Aside0.mk (Kd.R_elder' (by (with_reducible repeat (first|apply Kd.R_alloc|apply Kd.R_drewN|apply Kd.R_drew));exact HO_6.out) (Kd.R_base ho20) hb);have n2_:=Aside0.mk (Kd.R_lower (Kd.R_new' ho20 (Kd.R_lt (by (with_reducible repeat (first|apply Kd.R_alloc|apply Kd.R_drewN|apply Kd.R_drew));exact HO_6.out))) (below_size (by repeat (first|(with_reducible first|exact HB.out|apply below_alloc|apply pw_below_drewN|apply below_drew1)|exact HB.out))));have n3_:=Aside0.mk (below_step (by repeat (first|(with_reducible first|exact HB.out|apply below_alloc|apply pw_below_drewN|apply below_drew1)|exact HB.out)) hb);clear HO_4;clear HO_6;clear HB;have HO_4:=n0_;have HO_6:=n1_;have HO194:=n2_;have HB:=n3_;clear n0_ n1_ n2_ n3_;clear hb ho20;obtain ⟨Ao22,co22,eo22⟩:=Kd.R_slice HO194.out;subst eo22)|((with_reducible refine gate_builtin (b:=.append) (xs:=#[.tmp 41,.tmp 53]) rfl ?_);at_builtin;refine Kd.R_append_rows (Kd.int .u8) (w0:=w) w.heap.size rfl (.tmp 41) (.tmp 53) 47 5 (.int .u8 0) 1 rfl Try.underlying47 info5 rfl (by decide) (by omega) u6 x6_2 y192 _ _ _ (fun k_=>some k_≠(.slice Ao22 y192.length co22:Value).ownBlock) (fun _=>False) rfl rfl ?aO ?aR (fun _ _ h=>h) (fun _ h=>h.elim) ?aF ?aB ?aS ?aL ?_;(case aR=>repeat (first|exact (Kd.R_reads' HO194.out).2.2|(with_reducible refine Kd.C_alloc ?_ _)|(with_reducible refine Kd.C_drewN ?_ _)|(with_reducible refine Kd.C_drew ?_)));(case aB=>exact (by repeat (first|(with_reducible first|exact HB.out|apply below_alloc|apply pw_below_drewN|apply below_drew1)|exact HB.out)));(case aF=>exact (fun k_ hk=>Kd.fresh' (Kd.R_lt (by (with_reducible repeat (first|apply Kd.R_alloc|apply Kd.R_drewN|apply Kd.R_drew));exact HO194.out)) k_ hk));(case aO=>exact (by (with_reducible repeat (first|apply Kd.R_alloc|apply Kd.R_drewN|apply Kd.R_drew));exact Kd.R_mono HO_6.out (fun _ hk=>hk.2)));(case aS=>exact (below_size (by repeat (first|(with_reducible first|exact HB.out|apply below_alloc|apply pw_below_drewN|apply below_drew1)|exact HB.out))));(case aL=>have:=LMc17.out;omega);intro v196 w21 ho hb hg hat;rw [← Ny195.out] at ho;have n0_:=Aside0.mk (Kd.R_over' (by (with_reducible repeat (first|apply Kd.R_alloc|apply Kd.R_drewN|apply Kd.R_drew));exact HO_4.out) (Kd.R_typed (by (with_reducible repeat (first|apply Kd.R_alloc|apply Kd.R_drewN|apply Kd.R_drew));exact HO_6.out)) (by decide) hg);have n1_:=Aside0.mk (Kd.R_after (ok:=(fun _=>True)) (by (with_reducible repeat (first|apply Kd.R_alloc|apply Kd.R_drewN|apply Kd.R_drew));exact HO194.out) hg hat);have n2_:=Aside0.mk (hb);have n3_:=Aside0.mk (ho);clear HO_4;clear HO194;clear HB;clear HO_6;have HO_4:=n0_;have HO194:=n1_;have HB:=n2_;have HO197:=n3_;clear n0_ n1_ n2_ n3_;clear ho hb hg hat))
           go_roundg k2
           case measure=>have:=HK1.out;have:=HK2.out;omega
           case rel=>exact ⟨(y195),(wrap64 (x7_2+1)),(by first|rfl|(simp;done)|(simp [*];done)),H',⟨by have:=HK1.out;have:=HK2.out;omega⟩,⟨by (with_reducible repeat (first|apply Kd.R_alloc|apply Kd.R_drewN|apply Kd.R_drew));exact HO_4.out⟩,⟨by (with_reducible repeat (first|apply Kd.R_alloc|apply Kd.R_drewN|apply Kd.R_drew));exact Kd.R_mono HO197.out (fun _ hk=>trivial)⟩,⟨by repeat (first|(with_reducible first|exact HB.out|apply below_alloc|apply pw_below_drewN|apply below_drew1)|exact HB.out)⟩⟩
          ·
           rw [if_neg c17] at H
           exact absurd H (by simp)
         ·
          rw [if_neg c16] at H
          exact absurd H (by simp)
        ·
         rw [if_neg c15] at H
         have c15b0:decide (x7_2 < (x4_1.length:Int))=false:=decide_eq_false c15
         clear c15
         obtain rfl:=Option.some.inj H
         obtain ⟨Ao23,co23,eo23⟩:=Kd.R_slice HO_4.out
         subst eo23
         have hcv24:=own_string (P:=Try.prog) Try.underlying47 Try.underlying5 Try.underlying9 (Kd.own_of_R HO_6.out)
         go_wp2
         go_ret
         exact ⟨by first|rfl|(simp [errW_none,errW_some] <;> rfl)|(simp [*,errW_none,errW_some] <;> rfl),by repeat (first|(with_reducible first|exact HB.out|apply below_alloc|apply pw_below_drewN|apply below_drew1)|exact HB.out)⟩
  ·
   rw [if_neg c4] at H
   exact absurd H (by simp)
end Go.Proofs.Ytelcaepenfjloaa.Print
