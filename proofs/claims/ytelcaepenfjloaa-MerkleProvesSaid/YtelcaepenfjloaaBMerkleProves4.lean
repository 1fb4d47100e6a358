/- The proof of the statement MerkleProves of the seat, part 4 of 7: the functions that it reaches, as plain functions, with the walks that show it, and what they come to; the last part ends in the row. No condition beyond the statement's own. -/
import Derived.Shelf.Strings.Builder1
import Derived.Lib.Builder
import Derived.IntWalk
import Derived.Test.YtelcaepenfjloaaBMerkleProves1
import Derived.Test.YtelcaepenfjloaaBMerkleProves2
import Derived.Test.YtelcaepenfjloaaBMerkleProves3
/-! #### Pr22 -/
namespace Go.Proofs.Ytelcaepenfjloaa.Print
open Go.RowKit Go.Proofs.YtelcaepenfjloaaW.PrintWords Go.Proofs.YtelcaepenfjloaaW.PrintLast Go.Proofs.YtelcaepenfjloaaW.PrintMore
attribute [local go_sem] max2_int min2_int max_two min_two max_three min_three max_four min_four
set_option linter.unusedVariables false
set_option linter.unusedSimpArgs false
/-! ### mosaiclaw03_MerkleProves: function 22 -/
def mosaiclaw03_MerkleProves.j0:Nat→List ByteArray→Int→Bool→Option (Bool)
 | 0,_,_,_=>none
 | k+1,x0,x1,x19=>if x19=true then ((mosaiclaw03_awake.f k).bind fun t713=>(some t713)) else (if (x0.length:Int)=0 then (none) else ((merkle_Root.f k x0).bind fun bt714=>((merkle_Path.f k x0 (Int.tmod (wrap64 ((Int.tmod x1 (x0.length:Int))+(x0.length:Int))) (x0.length:Int))).bind fun bt716=>(if 0≤(Int.tmod (wrap64 ((Int.tmod x1 (x0.length:Int))+(x0.length:Int))) (x0.length:Int)) then (if (Int.tmod (wrap64 ((Int.tmod x1 (x0.length:Int))+(x0.length:Int))) (x0.length:Int)) < (x0.length:Int) then ((merkle_Road.f k (x0.length:Int) (Int.tmod (wrap64 ((Int.tmod x1 (x0.length:Int))+(x0.length:Int))) (x0.length:Int)) (rdOf ByteArray.empty x0 (Int.tmod (wrap64 ((Int.tmod x1 (x0.length:Int))+(x0.length:Int))) (x0.length:Int))) bt716.1).bind fun t721=>((merkle_Texts.f k x0).bind fun t724=>(if bt714.2=0 then (if bt716.2=0 then ((merkle_Leaf.f (rdOf ByteArray.empty x0 (Int.tmod (wrap64 ((Int.tmod x1 (x0.length:Int))+(x0.length:Int))) (x0.length:Int)))).bind fun t728=>((merkle_Check.f k bt714.1 (x0.length:Int) (Int.tmod (wrap64 ((Int.tmod x1 (x0.length:Int))+(x0.length:Int))) (x0.length:Int)) t728 bt716.1).bind fun t729=>(if t729=true then ((mosaiclaw03_awake.f k).bind fun t730=>(if t730=true then (if (t721.length:Int)=(wrap64 ((bt716.1.length:Int)+1)) then (if (t724.length:Int) > 0 then (if 0≤(wrap64 ((t721.length:Int) - 1)) then (if (wrap64 ((t721.length:Int) - 1)) < (t721.length:Int) then (if 0≤(wrap64 ((t724.length:Int) - 1)) then (if (wrap64 ((t724.length:Int) - 1)) < (t724.length:Int) then (some ((rdOf ByteArray.empty t721 (wrap64 ((t721.length:Int) - 1))).toList == (rdOf ByteArray.empty t724 (wrap64 ((t724.length:Int) - 1))).toList)) else (none)) else (none)) else (none)) else (none)) else (some false)) else (some false)) else (some false))) else (some false)))) else (some false)) else (some false)))) else (none)) else (none)))))
def mosaiclaw03_MerkleProves.f (k:Nat) (l0:List ByteArray) (a1:Int):Option (Bool):=(mosaiclaw03_few.f k l0 30 1024).bind fun t712=>(if t712=true then (mosaiclaw03_MerkleProves.j0 k l0 a1 ((l0.length:Int) == 0)) else (mosaiclaw03_MerkleProves.j0 k l0 a1 true))
theorem mosaiclaw03_MerkleProves.mono_l:∀ k,(∀ y0 y1 y2,LeO (mosaiclaw03_MerkleProves.j0 k y0 y1 y2) (mosaiclaw03_MerkleProves.j0 (k+1) y0 y1 y2))
 | 0=>fun _ _ _ r h=>by simp [mosaiclaw03_MerkleProves.j0] at h
 | k+1=>by
  have ih0:=mosaiclaw03_MerkleProves.mono_l k
  ·
   intro y0 y1 y2
   unfold mosaiclaw03_MerkleProves.j0
   repeat' first
   | (with_reducible exact ih0 _ _ _)
   | (with_reducible exact merkle_Check.mono _ _ _ _ _ _)
   | (with_reducible exact merkle_Path.mono _ _ _)
   | (with_reducible exact merkle_Road.mono _ _ _ _ _)
   | (with_reducible exact merkle_Root.mono _ _)
   | (with_reducible exact merkle_Texts.mono _ _)
   | (with_reducible exact mosaiclaw03_awake.mono _)
   | (with_reducible exact mosaiclaw03_few.mono _ _ _ _)
   | (with_reducible exact LeO.refl _)
   | (with_reducible exact LeO.none _)
   | (with_reducible refine LeO.ite ?_ ?_)
   | (with_reducible refine LeO.bind ?_ (fun _=>?_))
   | exact ih0 _ _ _
   | exact merkle_Check.mono _ _ _ _ _ _
   | exact merkle_Path.mono _ _ _
   | exact merkle_Road.mono _ _ _ _ _
   | exact merkle_Root.mono _ _
   | exact merkle_Texts.mono _ _
   | exact mosaiclaw03_awake.mono _
   | exact mosaiclaw03_few.mono _ _ _ _
   | exact LeO.none _
   | refine LeO.ite ?_ ?_
   | refine LeO.bind ?_ (fun _=>?_)
theorem mosaiclaw03_MerkleProves.mono:∀ a0 a1 k,LeO (mosaiclaw03_MerkleProves.f k a0 a1) (mosaiclaw03_MerkleProves.f (k+1) a0 a1):=by
 intro a0 a1 k
 have ih0:=mosaiclaw03_MerkleProves.mono_l k
 unfold mosaiclaw03_MerkleProves.f
 repeat' first
   | (with_reducible exact ih0 _ _ _)
   | (with_reducible exact merkle_Check.mono _ _ _ _ _ _)
   | (with_reducible exact merkle_Path.mono _ _ _)
   | (with_reducible exact merkle_Road.mono _ _ _ _ _)
   | (with_reducible exact merkle_Root.mono _ _)
   | (with_reducible exact merkle_Texts.mono _ _)
   | (with_reducible exact mosaiclaw03_awake.mono _)
   | (with_reducible exact mosaiclaw03_few.mono _ _ _ _)
   | (with_reducible exact LeO.refl _)
   | (with_reducible exact LeO.none _)
   | (with_reducible refine LeO.ite ?_ ?_)
   | (with_reducible refine LeO.bind ?_ (fun _=>?_))
   | exact ih0 _ _ _
   | exact merkle_Check.mono _ _ _ _ _ _
   | exact merkle_Path.mono _ _ _
   | exact merkle_Road.mono _ _ _ _ _
   | exact merkle_Root.mono _ _
   | exact merkle_Texts.mono _ _
   | exact mosaiclaw03_awake.mono _
   | exact mosaiclaw03_few.mono _ _ _ _
   | exact LeO.none _
   | refine LeO.ite ?_ ?_
   | refine LeO.bind ?_ (fun _=>?_)
def mosaiclaw03_MerkleProves.T10:Bool×List (List Nat×List Nat):=(true,[([],[]),([0,0],[0]),([1],[1]),([2,1],[1,2]),([1],[1]),([4,1],[1,4]),([5,1],[1,5]),([3,6,1],[1,3,6]),([1,7],[1,7]),([8,1],[8]),([9],[9]),([10,9],[9,10]),([11,9],[9,11]),([9,12],[9,12]),([13,9],[13]),([14],[14]),([14],[14]),([16,14],[14,16]),([17,14],[14,17]),([15,18,14],[14,15,18]),([19,14],[14,19]),([14],[14]),([14],[14]),([22,14],[14,22]),([23,14],[14,23]),([21,24,14],[14,21,24]),([25,14],[14,25]),([20,26,14],[14,20,26]),([14,27],[14,27]),([28,14,0,1,2,3,4,5,6,7,8,9,10,11,12,13,14,15,16,17,18,19,20,21,22,23,24,25,26,27,28],[28])])
def mosaiclaw03_MerkleProves.B10:List Nat:=[0,1,3,7,3,19,51,127,255,511,1023,2047,4095,8191,16383,32767,32767,98303,229375,524287,1048575,32767,32767,4227071,12615679,31490047,65044479,134217727,268435455,536870911]
theorem mosaiclaw03_MerkleProves.tab10:rtab .any (opsOf Try.f22 10)=mosaiclaw03_MerkleProves.T10:=by kernel_rfl
theorem mosaiclaw03_MerkleProves.bits10:waitsOk mosaiclaw03_MerkleProves.T10.2 mosaiclaw03_MerkleProves.B10=true:=by kernel_rfl
set_option maxHeartbeats 8000000 in
set_option maxRecDepth 100000 in
theorem mosaiclaw03_MerkleProves.callsT (k:Nat) (A0:Option Addr) (c0:Nat) (l0:List ByteArray) (a1:Int) (w:World) (hr0:Kd.C Kd.string w A0 l0.length l0) (hc0:l0.length≤c0) (h:mosaiclaw03_MerkleProves.f k l0 a1=some true) :
  Calls Try.prog 22 #[.slice A0 l0.length c0,.int .i64 a1] w fun e w'=>e=.returned (.bool true)∧Below w.heap.size w w':=by
 have HR0:=Aside0.mk hr0
 have HC0:=Aside0.mk hc0
 clear hr0 hc0
 have HB:=Aside0.mk (Below.refl w.heap.size w)
 have H:((mosaiclaw03_few.f k l0 30 1024).bind fun t712=>(if t712=true then (mosaiclaw03_MerkleProves.j0 k l0 a1 ((l0.length:Int) == 0)) else (mosaiclaw03_MerkleProves.j0 k l0 a1 true)))=some true:=h
 clear h
 have HC3:=Aside0.mk H
 clear H
 go_enter Try.func22,Try.ntmps22
 go_upto_region 1 with (fail)
 go_cut [19] (fun v19 wc=>∃ (kq:Nat) (x19_2:Bool),v19=.bool x19_2∧Aside0 (mosaiclaw03_MerkleProves.j0 kq l0 a1 x19_2=some true)∧Aside0 (kq≤k)∧Aside0 (Below w.heap.size w wc))
 case first =>
  have H:=HC3.out
  clear HC3
  replace H:=Option.bind_eq_some_iff.mp H
  obtain ⟨t712,A40,H⟩:=H
  replace H:(if t712=true then (mosaiclaw03_MerkleProves.j0 k l0 a1 ((l0.length:Int) == 0)) else (mosaiclaw03_MerkleProves.j0 k l0 a1 true))=some true:=H
  have A4:=Aside0.mk A40
  clear A40
  by_cases c5:t712=true
  ·
   subst c5
   have H1:(mosaiclaw03_MerkleProves.j0 k l0 a1 ((l0.length:Int) == 0))=some true:=by rw [if_pos rfl] at H;exact H
   clear H
   have H:=H1
   clear H1
   have H':=Aside0.mk H
   clear H
   go_wp2_with (first|((with_reducible refine gate_callee (f:=44) rfl ?_);refine goesL_ (some 13) rfl rfl Try.func44 (by kernel_rfl) rfl #[.slice A0 l0.length c0,.int .i64 30,.int .i64 1024] rfl (by (try simp only [List.map_toArray,List.map_cons,List.map_nil]);first|done|rfl|(simp only [List.length_drop,List.length_take];rfl)) ?_;(with_reducible refine (mosaiclaw03_few.calls k _ _ l0 30 1024 true _ ?side1 ?side2 A4.out).mono ?_);(case side1=>repeat (first|exact (Kd.C_below HR0.out HB.out)|(with_reducible refine Kd.C_alloc ?_ _)|(with_reducible refine Kd.C_drewN ?_ _)|(with_reducible refine Kd.C_drew ?_)));(case side2=>exact HC0.out);rintro e w' ⟨rfl,⟨nd,rfl⟩⟩;refine ⟨_,rfl,?_⟩))
   go_meet
   case rel=>exact ⟨_,(((l0.length:Int) == 0)),(by first|rfl|(simp;done)|(simp [*];done)),(by first|exact H'|(rw [hji12];exact H')|(rw [hji26];exact H')|(rw [hji29];exact H')),⟨by first|omega|exact Nat.le_refl _⟩,⟨by repeat (first|(with_reducible first|exact HB.out|apply below_alloc|apply pw_below_drewN|apply below_drew1)|exact HB.out)⟩⟩
  ·
   replace c5:=Bool.eq_false_iff.mpr c5
   subst c5
   have H1:(mosaiclaw03_MerkleProves.j0 k l0 a1 true)=some true:=by rw [if_neg (show ¬ (false=true) by decide)] at H;exact H
   clear H
   have H:=H1
   clear H1
   have H':=Aside0.mk H
   clear H
   go_wp2_with (first|((with_reducible refine gate_callee (f:=44) rfl ?_);refine goesL_ (some 13) rfl rfl Try.func44 (by kernel_rfl) rfl #[.slice A0 l0.length c0,.int .i64 30,.int .i64 1024] rfl (by (try simp only [List.map_toArray,List.map_cons,List.map_nil]);first|done|rfl|(simp only [List.length_drop,List.length_take];rfl)) ?_;(with_reducible refine (mosaiclaw03_few.calls k _ _ l0 30 1024 false _ ?side1 ?side2 A4.out).mono ?_);(case side1=>repeat (first|exact (Kd.C_below HR0.out HB.out)|(with_reducible refine Kd.C_alloc ?_ _)|(with_reducible refine Kd.C_drewN ?_ _)|(with_reducible refine Kd.C_drew ?_)));(case side2=>exact HC0.out);rintro e w' ⟨rfl,⟨nd,rfl⟩⟩;refine ⟨_,rfl,?_⟩))
   go_meet
   case rel=>exact ⟨_,(true),(by first|rfl|(simp;done)|(simp [*];done)),(by first|exact H'|(rw [hji12];exact H')|(rw [hji26];exact H')|(rw [hji29];exact H')),⟨by first|omega|exact Nat.le_refl _⟩,⟨by repeat (first|(with_reducible first|exact HB.out|apply below_alloc|apply pw_below_drewN|apply below_drew1)|exact HB.out)⟩⟩
 case rest =>
  clear HC3
  try clear c2
  try clear p2
  try clear c4
  try clear c5
  obtain ⟨kq,x19_2,rfl,HA,HJ2,HB⟩:=hcut
  cases kq with
  | zero=>exact absurd HA.out (by simp [mosaiclaw03_MerkleProves.j0])
  | succ kj2 =>
   have H:=HA.out
   clear HA
   simp only [mosaiclaw03_MerkleProves.j0] at H
   by_cases c6:x19_2=true
   ·
    subst c6
    have H1:((mosaiclaw03_awake.f kj2).bind fun t713=>(some t713))=some true:=by rw [if_pos rfl] at H;exact H
    clear H
    have H:=H1
    clear H1
    replace H:=Option.bind_eq_some_iff.mp H
    obtain ⟨t713,A70,H⟩:=H
    replace H:(some t713)=some true:=H
    have A7:=Aside0.mk A70
    clear A70
    obtain rfl:=Option.some.inj H
    go_wp2_with (first|((with_reducible refine gate_callee (f:=45) rfl ?_);refine goesL_ (some 20) rfl rfl Try.func45 (by kernel_rfl) rfl #[] rfl (by (try simp only [List.map_toArray,List.map_cons,List.map_nil]);first|done|rfl|(simp only [List.length_drop,List.length_take];rfl)) ?_;(with_reducible refine (mosaiclaw03_awake.calls kj2  true _ A7.out).mono ?_);rintro e w8 ⟨rfl,hb⟩;refine ⟨_,rfl,?_⟩;have n0_:=Aside0.mk (below_step (by repeat (first|(with_reducible first|exact HB.out|apply below_alloc|apply pw_below_drewN|apply below_drew1)|exact HB.out)) hb);clear HB;have HB:=n0_;clear n0_;(try clear hb);(try clear hb2);(try clear hk);(try clear hi)))
    go_ret
    exact ⟨by first|rfl|(simp [errW_none,errW_some] <;> rfl)|(simp [*,errW_none,errW_some] <;> rfl),by repeat (first|(with_reducible first|exact HB.out|apply below_alloc|apply pw_below_drewN|apply below_drew1)|exact HB.out)⟩
   ·
    replace c6:=Bool.eq_false_iff.mpr c6
    subst c6
    have H1:(if (l0.length:Int)=0 then (none) else ((merkle_Root.f kj2 l0).bind fun bt714=>((merkle_Path.f kj2 l0 (Int.tmod (wrap64 ((Int.tmod a1 (l0.length:Int))+(l0.length:Int))) (l0.length:Int))).bind fun bt716=>(if 0≤(Int.tmod (wrap64 ((Int.tmod a1 (l0.length:Int))+(l0.length:Int))) (l0.length:Int)) then (if (Int.tmod (wrap64 ((Int.tmod a1 (l0.length:Int))+(l0.length:Int))) (l0.length:Int)) < (l0.length:Int) then ((merkle_Road.f kj2 (l0.length:Int) (Int.tmod (wrap64 ((Int.tmod a1 (l0.length:Int))+(l0.length:Int))) (l0.length:Int)) (rdOf ByteArray.empty l0 (Int.tmod (wrap64 ((Int.tmod a1 (l0.length:Int))+(l0.length:Int))) (l0.length:Int))) bt716.1).bind fun t721=>((merkle_Texts.f kj2 l0).bind fun t724=>(if bt714.2=0 then (if bt716.2=0 then ((merkle_Leaf.f (rdOf ByteArray.empty l0 (Int.tmod (wrap64 ((Int.tmod a1 (l0.length:Int))+(l0.length:Int))) (l0.length:Int)))).bind fun t728=>((merkle_Check.f kj2 bt714.1 (l0.length:Int) (Int.tmod (wrap64 ((Int.tmod a1 (l0.length:Int))+(l0.length:Int))) (l0.length:Int)) t728 bt716.1).bind fun t729=>(if t729=true then ((mosaiclaw03_awake.f kj2).bind fun t730=>(if t730=true then (if (t721.length:Int)=(wrap64 ((bt716.1.length:Int)+1)) then (if (t724.length:Int) > 0 then (if 0≤(wrap64 ((t721.length:Int) - 1)) then (if (wrap64 ((t721.length:Int) - 1)) < (t721.length:Int) then (if 0≤(wrap64 ((t724.length:Int) - 1)) then (if (wrap64 ((t724.length:Int) - 1)) < (t724.length:Int) then (some ((rdOf ByteArray.empty t721 (wrap64 ((t721.length:Int) - 1))).toList == (rdOf ByteArray.empty t724 (wrap64 ((t724.length:Int) - 1))).toList)) else (none)) else (none)) else (none)) else (none)) else (some false)) else (some false)) else (some false))) else (some false)))) else (some false)) else (some false)))) else (none)) else (none)))))=some true:=by rw [if_neg (show ¬ (false=true) by decide)] at H;exact H
    clear H
    have H:=H1
    clear H1
    by_cases c9:(l0.length:Int)=0
    ·
     rw [if_pos c9] at H
     exact absurd H (by simp)
    ·
     rw [if_neg c9] at H
     have c9b0:((l0.length:Int) == 0)=false:=beq_eq_false_iff_ne.mpr c9
     have c9b1:((l0.length:Int) != 0)=true:=bne_iff_ne.mpr c9
     have c9b2:¬ (l0=[]):=fun h_=>c9 (by rw [h_];rfl)
     replace H:=Option.bind_eq_some_iff.mp H
     obtain ⟨⟨t714,t715⟩,A100,H⟩:=H
     replace H:((merkle_Path.f kj2 l0 (Int.tmod (wrap64 ((Int.tmod a1 (l0.length:Int))+(l0.length:Int))) (l0.length:Int))).bind fun bt716=>(if 0≤(Int.tmod (wrap64 ((Int.tmod a1 (l0.length:Int))+(l0.length:Int))) (l0.length:Int)) then (if (Int.tmod (wrap64 ((Int.tmod a1 (l0.length:Int))+(l0.length:Int))) (l0.length:Int)) < (l0.length:Int) then ((merkle_Road.f kj2 (l0.length:Int) (Int.tmod (wrap64 ((Int.tmod a1 (l0.length:Int))+(l0.length:Int))) (l0.length:Int)) (rdOf ByteArray.empty l0 (Int.tmod (wrap64 ((Int.tmod a1 (l0.length:Int))+(l0.length:Int))) (l0.length:Int))) bt716.1).bind fun t721=>((merkle_Texts.f kj2 l0).bind fun t724=>(if t715=0 then (if bt716.2=0 then ((merkle_Leaf.f (rdOf ByteArray.empty l0 (Int.tmod (wrap64 ((Int.tmod a1 (l0.length:Int))+(l0.length:Int))) (l0.length:Int)))).bind fun t728=>((merkle_Check.f kj2 t714 (l0.length:Int) (Int.tmod (wrap64 ((Int.tmod a1 (l0.length:Int))+(l0.length:Int))) (l0.length:Int)) t728 bt716.1).bind fun t729=>(if t729=true then ((mosaiclaw03_awake.f kj2).bind fun t730=>(if t730=true then (if (t721.length:Int)=(wrap64 ((bt716.1.length:Int)+1)) then (if (t724.length:Int) > 0 then (if 0≤(wrap64 ((t721.length:Int) - 1)) then (if (wrap64 ((t721.length:Int) - 1)) < (t721.length:Int) then (if 0≤(wrap64 ((t724.length:Int) - 1)) then (if (wrap64 ((t724.length:Int) - 1)) < (t724.length:Int) then (some ((rdOf ByteArray.empty t721 (wrap64 ((t721.length:Int) - 1))).toList == (rdOf ByteArray.empty t724 (wrap64 ((t724.length:Int) - 1))).toList)) else (none)) else (none)) else (none)) else (none)) else (some false)) else (some false)) else (some false))) else (some false)))) else (some false)) else (some false)))) else (none)) else (none)))=some true:=H
     have A10:=Aside0.mk A100
     clear A100
     replace H:=Option.bind_eq_some_iff.mp H
     obtain ⟨⟨t716,t717⟩,A110,H⟩:=H
     replace H:(if 0≤(Int.tmod (wrap64 ((Int.tmod a1 (l0.length:Int))+(l0.length:Int))) (l0.length:Int)) then (if (Int.tmod (wrap64 ((Int.tmod a1 (l0.length:Int))+(l0.length:Int))) (l0.length:Int)) < (l0.length:Int) then ((merkle_Road.f kj2 (l0.length:Int) (Int.tmod (wrap64 ((Int.tmod a1 (l0.length:Int))+(l0.length:Int))) (l0.length:Int)) (rdOf ByteArray.empty l0 (Int.tmod (wrap64 ((Int.tmod a1 (l0.length:Int))+(l0.length:Int))) (l0.length:Int))) t716).bind fun t721=>((merkle_Texts.f kj2 l0).bind fun t724=>(if t715=0 then (if t717=0 then ((merkle_Leaf.f (rdOf ByteArray.empty l0 (Int.tmod (wrap64 ((Int.tmod a1 (l0.length:Int))+(l0.length:Int))) (l0.length:Int)))).bind fun t728=>((merkle_Check.f kj2 t714 (l0.length:Int) (Int.tmod (wrap64 ((Int.tmod a1 (l0.length:Int))+(l0.length:Int))) (l0.length:Int)) t728 t716).bind fun t729=>(if t729=true then ((mosaiclaw03_awake.f kj2).bind fun t730=>(if t730=true then (if (t721.length:Int)=(wrap64 ((t716.length:Int)+1)) then (if (t724.length:Int) > 0 then (if 0≤(wrap64 ((t721.length:Int) - 1)) then (if (wrap64 ((t721.length:Int) - 1)) < (t721.length:Int) then (if 0≤(wrap64 ((t724.length:Int) - 1)) then (if (wrap64 ((t724.length:Int) - 1)) < (t724.length:Int) then (some ((rdOf ByteArray.empty t721 (wrap64 ((t721.length:Int) - 1))).toList == (rdOf ByteArray.empty t724 (wrap64 ((t724.length:Int) - 1))).toList)) else (none)) else (none)) else (none)) else (none)) else (some false)) else (some false)) else (some false))) else (some false)))) else (some false)) else (some false)))) else (none)) else (none))=some true:=H
     have A11:=Aside0.mk A110
     clear A110
     obtain ⟨ji12,hji12⟩:∃ j_:Int,(Int.tmod (wrap64 ((Int.tmod a1 (l0.length:Int))+(l0.length:Int))) (l0.length:Int))=j_:=⟨_,rfl⟩
     replace H:(if 0≤(ji12) then (if (ji12) < (l0.length:Int) then ((merkle_Road.f kj2 (l0.length:Int) (ji12) (rdOf ByteArray.empty l0 (ji12)) t716).bind fun t721=>((merkle_Texts.f kj2 l0).bind fun t724=>(if t715=0 then (if t717=0 then ((merkle_Leaf.f (rdOf ByteArray.empty l0 (ji12))).bind fun t728=>((merkle_Check.f kj2 t714 (l0.length:Int) (ji12) t728 t716).bind fun t729=>(if t729=true then ((mosaiclaw03_awake.f kj2).bind fun t730=>(if t730=true then (if (t721.length:Int)=(wrap64 ((t716.length:Int)+1)) then (if (t724.length:Int) > 0 then (if 0≤(wrap64 ((t721.length:Int) - 1)) then (if (wrap64 ((t721.length:Int) - 1)) < (t721.length:Int) then (if 0≤(wrap64 ((t724.length:Int) - 1)) then (if (wrap64 ((t724.length:Int) - 1)) < (t724.length:Int) then (some ((rdOf ByteArray.empty t721 (wrap64 ((t721.length:Int) - 1))).toList == (rdOf ByteArray.empty t724 (wrap64 ((t724.length:Int) - 1))).toList)) else (none)) else (none)) else (none)) else (none)) else (some false)) else (some false)) else (some false))) else (some false)))) else (some false)) else (some false)))) else (none)) else (none))=some true:=by first|(rw [hji12] at H;exact H)|(simp only [hji12] at H ⊢;exact H)
     (try rw [hji12] at A10)
     (try rw [hji12] at A11)
     by_cases c13:0≤(ji12)
     ·
      rw [if_pos c13] at H
      have c13b0:decide (0≤(ji12))=true:=decide_eq_true c13
      clear c13
      by_cases c14:(ji12) < (l0.length:Int)
      ·
       rw [if_pos c14] at H
       have c14b0:decide ((ji12) < (l0.length:Int))=true:=decide_eq_true c14
       clear c14
       replace H:=Option.bind_eq_some_iff.mp H
       obtain ⟨t721,A150,H⟩:=H
       replace H:((merkle_Texts.f kj2 l0).bind fun t724=>(if t715=0 then (if t717=0 then ((merkle_Leaf.f (rdOf ByteArray.empty l0 (ji12))).bind fun t728=>((merkle_Check.f kj2 t714 (l0.length:Int) (ji12) t728 t716).bind fun t729=>(if t729=true then ((mosaiclaw03_awake.f kj2).bind fun t730=>(if t730=true then (if (t721.length:Int)=(wrap64 ((t716.length:Int)+1)) then (if (t724.length:Int) > 0 then (if 0≤(wrap64 ((t721.length:Int) - 1)) then (if (wrap64 ((t721.length:Int) - 1)) < (t721.length:Int) then (if 0≤(wrap64 ((t724.length:Int) - 1)) then (if (wrap64 ((t724.length:Int) - 1)) < (t724.length:Int) then (some ((rdOf ByteArray.empty t721 (wrap64 ((t721.length:Int) - 1))).toList == (rdOf ByteArray.empty t724 (wrap64 ((t724.length:Int) - 1))).toList)) else (none)) else (none)) else (none)) else (none)) else (some false)) else (some false)) else (some false))) else (some false)))) else (some false)) else (some false)))=some true:=H
       have A15:=Aside0.mk A150
       clear A150
       replace H:=Option.bind_eq_some_iff.mp H
       obtain ⟨t724,A160,H⟩:=H
       replace H:(if t715=0 then (if t717=0 then ((merkle_Leaf.f (rdOf ByteArray.empty l0 (ji12))).bind fun t728=>((merkle_Check.f kj2 t714 (l0.length:Int) (ji12) t728 t716).bind fun t729=>(if t729=true then ((mosaiclaw03_awake.f kj2).bind fun t730=>(if t730=true then (if (t721.length:Int)=(wrap64 ((t716.length:Int)+1)) then (if (t724.length:Int) > 0 then (if 0≤(wrap64 ((t721.length:Int) - 1)) then (if (wrap64 ((t721.length:Int) - 1)) < (t721.length:Int) then (if 0≤(wrap64 ((t724.length:Int) - 1)) then (if (wrap64 ((t724.length:Int) - 1)) < (t724.length:Int) then (some ((rdOf ByteArray.empty t721 (wrap64 ((t721.length:Int) - 1))).toList == (rdOf ByteArray.empty t724 (wrap64 ((t724.length:Int) - 1))).toList)) else (none)) else (none)) else (none)) else (none)) else (some false)) else (some false)) else (some false))) else (some false)))) else (some false)) else (some false))=some true:=H
       have A16:=Aside0.mk A160
       clear A160
       by_cases c17:t715=0
       ·
        rw [if_pos c17] at H
        have c17b0:(t715 == 0)=true:=beq_iff_eq.mpr c17
        have c17b1:(t715 != 0)=false:=bne_eq_false_iff_eq.mpr c17
        clear c17
        by_cases c18:t717=0
        ·
         rw [if_pos c18] at H
         have c18b0:(t717 == 0)=true:=beq_iff_eq.mpr c18
         have c18b1:(t717 != 0)=false:=bne_eq_false_iff_eq.mpr c18
         clear c18
         replace H:=Option.bind_eq_some_iff.mp H
         obtain ⟨t728,A190,H⟩:=H
         replace H:((merkle_Check.f kj2 t714 (l0.length:Int) (ji12) t728 t716).bind fun t729=>(if t729=true then ((mosaiclaw03_awake.f kj2).bind fun t730=>(if t730=true then (if (t721.length:Int)=(wrap64 ((t716.length:Int)+1)) then (if (t724.length:Int) > 0 then (if 0≤(wrap64 ((t721.length:Int) - 1)) then (if (wrap64 ((t721.length:Int) - 1)) < (t721.length:Int) then (if 0≤(wrap64 ((t724.length:Int) - 1)) then (if (wrap64 ((t724.length:Int) - 1)) < (t724.length:Int) then (some ((rdOf ByteArray.empty t721 (wrap64 ((t721.length:Int) - 1))).toList == (rdOf ByteArray.empty t724 (wrap64 ((t724.length:Int) - 1))).toList)) else (none)) else (none)) else (none)) else (none)) else (some false)) else (some false)) else (some false))) else (some false)))=some true:=H
         have A19:=Aside0.mk A190
         clear A190
         replace H:=Option.bind_eq_some_iff.mp H
         obtain ⟨t729,A200,H⟩:=H
         replace H:(if t729=true then ((mosaiclaw03_awake.f kj2).bind fun t730=>(if t730=true then (if (t721.length:Int)=(wrap64 ((t716.length:Int)+1)) then (if (t724.length:Int) > 0 then (if 0≤(wrap64 ((t721.length:Int) - 1)) then (if (wrap64 ((t721.length:Int) - 1)) < (t721.length:Int) then (if 0≤(wrap64 ((t724.length:Int) - 1)) then (if (wrap64 ((t724.length:Int) - 1)) < (t724.length:Int) then (some ((rdOf ByteArray.empty t721 (wrap64 ((t721.length:Int) - 1))).toList == (rdOf ByteArray.empty t724 (wrap64 ((t724.length:Int) - 1))).toList)) else (none)) else (none)) else (none)) else (none)) else (some false)) else (some false)) else (some false))) else (some false))=some true:=H
         have A20:=Aside0.mk A200
         clear A200
         by_cases c21:t729=true
         ·
          subst c21
          have H1:((mosaiclaw03_awake.f kj2).bind fun t730=>(if t730=true then (if (t721.length:Int)=(wrap64 ((t716.length:Int)+1)) then (if (t724.length:Int) > 0 then (if 0≤(wrap64 ((t721.length:Int) - 1)) then (if (wrap64 ((t721.length:Int) - 1)) < (t721.length:Int) then (if 0≤(wrap64 ((t724.length:Int) - 1)) then (if (wrap64 ((t724.length:Int) - 1)) < (t724.length:Int) then (some ((rdOf ByteArray.empty t721 (wrap64 ((t721.length:Int) - 1))).toList == (rdOf ByteArray.empty t724 (wrap64 ((t724.length:Int) - 1))).toList)) else (none)) else (none)) else (none)) else (none)) else (some false)) else (some false)) else (some false)))=some true:=by rw [if_pos rfl] at H;exact H
          clear H
          have H:=H1
          clear H1
          replace H:=Option.bind_eq_some_iff.mp H
          obtain ⟨t730,A220,H⟩:=H
          replace H:(if t730=true then (if (t721.length:Int)=(wrap64 ((t716.length:Int)+1)) then (if (t724.length:Int) > 0 then (if 0≤(wrap64 ((t721.length:Int) - 1)) then (if (wrap64 ((t721.length:Int) - 1)) < (t721.length:Int) then (if 0≤(wrap64 ((t724.length:Int) - 1)) then (if (wrap64 ((t724.length:Int) - 1)) < (t724.length:Int) then (some ((rdOf ByteArray.empty t721 (wrap64 ((t721.length:Int) - 1))).toList == (rdOf ByteArray.empty t724 (wrap64 ((t724.length:Int) - 1))).toList)) else (none)) else (none)) else (none)) else (none)) else (some false)) else (some false)) else (some false))=some true:=H
          have A22:=Aside0.mk A220
          clear A220
          by_cases c23:t730=true
          ·
           subst c23
           have H1:(if (t721.length:Int)=(wrap64 ((t716.length:Int)+1)) then (if (t724.length:Int) > 0 then (if 0≤(wrap64 ((t721.length:Int) - 1)) then (if (wrap64 ((t721.length:Int) - 1)) < (t721.length:Int) then (if 0≤(wrap64 ((t724.length:Int) - 1)) then (if (wrap64 ((t724.length:Int) - 1)) < (t724.length:Int) then (some ((rdOf ByteArray.empty t721 (wrap64 ((t721.length:Int) - 1))).toList == (rdOf ByteArray.empty t724 (wrap64 ((t724.length:Int) - 1))).toList)) else (none)) else (none)) else (none)) else (none)) else (some false)) else (some false))=some true:=by rw [if_pos rfl] at H;exact H
           clear H
           have H:=H1
           clear H1
           by_cases c24:(t721.length:Int)=(wrap64 ((t716.length:Int)+1))
           ·
            rw [if_pos c24] at H
            have c24b0:((t721.length:Int) == (wrap64 ((t716.length:Int)+1)))=true:=beq_iff_eq.mpr c24
            have c24b1:((t721.length:Int) != (wrap64 ((t716.length:Int)+1)))=false:=bne_eq_false_iff_eq.mpr c24
            clear c24
            by_cases c25:(t724.length:Int) > 0
            ·
             rw [if_pos c25] at H
             have c25b0:decide (0 < (t724.length:Int))=true:=decide_eq_true c25
             have c25b1:decide (0 < t724.length)=true:=decide_eq_true (by omega)
             clear c25
             obtain ⟨ji26,hji26⟩:∃ j_:Int,(wrap64 ((t721.length:Int) - 1))=j_:=⟨_,rfl⟩
             replace H:(if 0≤(ji26) then (if (ji26) < (t721.length:Int) then (if 0≤(wrap64 ((t724.length:Int) - 1)) then (if (wrap64 ((t724.length:Int) - 1)) < (t724.length:Int) then (some ((rdOf ByteArray.empty t721 (ji26)).toList == (rdOf ByteArray.empty t724 (wrap64 ((t724.length:Int) - 1))).toList)) else (none)) else (none)) else (none)) else (none))=some true:=by first|(rw [hji26] at H;exact H)|(simp only [hji26] at H ⊢;exact H)
             (try rw [hji26] at A10)
             (try rw [hji26] at A11)
             (try rw [hji26] at A15)
             (try rw [hji26] at A16)
             (try rw [hji26] at A19)
             (try rw [hji26] at A20)
             (try rw [hji26] at A22)
             have hji26w:(IntKind.i64.wrap ((t721.length:Int) - 1))=ji26:=(i64_w _).trans hji26
             by_cases c27:0≤(ji26)
             ·
              rw [if_pos c27] at H
              have c27b0:decide (0≤(ji26))=true:=decide_eq_true c27
              clear c27
              by_cases c28:(ji26) < (t721.length:Int)
              ·
               rw [if_pos c28] at H
               have c28b0:decide ((ji26) < (t721.length:Int))=true:=decide_eq_true c28
               clear c28
               obtain ⟨ji29,hji29⟩:∃ j_:Int,(wrap64 ((t724.length:Int) - 1))=j_:=⟨_,rfl⟩
               replace H:(if 0≤(ji29) then (if (ji29) < (t724.length:Int) then (some ((rdOf ByteArray.empty t721 (ji26)).toList == (rdOf ByteArray.empty t724 (ji29)).toList)) else (none)) else (none))=some true:=by first|(rw [hji29] at H;exact H)|(simp only [hji29] at H ⊢;exact H)
               (try rw [hji29] at A10)
               (try rw [hji29] at A11)
               (try rw [hji29] at A15)
               (try rw [hji29] at A16)
               (try rw [hji29] at A19)
               (try rw [hji29] at A20)
               (try rw [hji29] at A22)
               have hji29w:(IntKind.i64.wrap ((t724.length:Int) - 1))=ji29:=(i64_w _).trans hji29
               by_cases c30:0≤(ji29)
               ·
                rw [if_pos c30] at H
                have c30b0:decide (0≤(ji29))=true:=decide_eq_true c30
                clear c30
                by_cases c31:(ji29) < (t724.length:Int)
                ·
                 rw [if_pos c31] at H
                 have c31b0:decide ((ji29) < (t724.length:Int))=true:=decide_eq_true c31
                 clear c31
                 first|(obtain rfl:=Option.some.inj H)|(have HT_:=Option.some.inj H)
                 try go_wp2_with (first|((with_reducible refine gate_callee (f:=46) rfl ?_);refine goesL_ (some 33) rfl rfl Try.func46 (by kernel_rfl) rfl #[.slice A0 l0.length c0] rfl (by (try simp only [List.map_toArray,List.map_cons,List.map_nil]);first|done|rfl|(simp only [List.length_drop,List.length_take];rfl)) ?_;(with_reducible refine (merkle_Root.calls kj2 _ _ l0 t714 t715 _ ?side1 ?side2 A10.out).mono ?_);(case side1=>repeat (first|exact (Kd.C_below HR0.out HB.out)|(with_reducible refine Kd.C_alloc ?_ _)|(with_reducible refine Kd.C_drewN ?_ _)|(with_reducible refine Kd.C_drew ?_)));(case side2=>exact HC0.out);rintro e w32 ⟨rfl,hb⟩;refine ⟨_,rfl,?_⟩;have n0_:=Aside0.mk (below_step (by repeat (first|(with_reducible first|exact HB.out|apply below_alloc|apply pw_below_drewN|apply below_drew1)|exact HB.out)) hb);clear HB;have HB:=n0_;clear n0_;(try clear hb);(try clear hb2);(try clear hk);(try clear hi))|((with_reducible refine gate_callee (f:=52) rfl ?_);refine goesL_ (some 39) rfl rfl Try.func52 (by kernel_rfl) rfl #[.slice A0 l0.length c0,.int .i64 ji12] rfl (by (try simp only [List.map_toArray,List.map_cons,List.map_nil]);first|done|(simp only [hji12];rfl)|rfl|(simp only [List.length_drop,List.length_take];rfl)) ?_;(with_reducible refine (merkle_Path.calls kj2 _ _ l0 ji12 t716 t717 _ ?side1 ?side2 A11.out).mono ?_);(case side1=>repeat (first|exact (Kd.C_below HR0.out HB.out)|(with_reducible refine Kd.C_alloc ?_ _)|(with_reducible refine Kd.C_drewN ?_ _)|(with_reducible refine Kd.C_drew ?_)));(case side2=>exact HC0.out);rintro e w33 ⟨v718,rfl,ho0,hb⟩;refine ⟨_,rfl,?_⟩;have n0_:=Aside0.mk (Kd.R_lower ho0 (below_size (by repeat (first|(with_reducible first|exact HB.out|apply below_alloc|apply pw_below_drewN|apply below_drew1)|exact HB.out))));have n1_:=Aside0.mk (below_step (by repeat (first|(with_reducible first|exact HB.out|apply below_alloc|apply pw_below_drewN|apply below_drew1)|exact HB.out)) hb);clear HB;have HO719:=n0_;have HB:=n1_;clear n0_ n1_;(try clear hb);(try clear hb2);(try clear hk);(try clear hi);(try clear ho0);have p720:0≤((ji12):Int):=of_decide_eq_true (by first|(with_reducible assumption)|assumption);have q720:(ji12) < (l0.length:Int):=of_decide_eq_true (by first|(with_reducible assumption)|assumption);obtain ⟨ad720,e720,hx720_0⟩:=Kd.at_string HR0.out (ji12) p720 q720;cases e720;replace hx720_0:=(HB.out.cell (World.block_lt_of_cell? w _ hx720_0)).trans hx720_0;replace p720:=eq_true p720;replace q720:=eq_true q720;obtain ⟨Ao34,co34,eo34⟩:=Kd.R_slice HO719.out;subst eo34)|((with_reducible refine gate_callee (f:=81) rfl ?_);refine goesL_ (some 50) rfl rfl Try.func81 (by kernel_rfl) rfl #[.int .i64 (l0.length:Int),.int .i64 ji12,.string (rdOf ByteArray.empty l0 (ji12)),.slice Ao34 t716.length co34] rfl (by (try simp only [List.map_toArray,List.map_cons,List.map_nil]);first|done|(simp only [hji12];rfl)|rfl|(simp only [List.length_drop,List.length_take];rfl)) ?_;(with_reducible refine (merkle_Road.calls kj2 (l0.length:Int) ji12 (rdOf ByteArray.empty l0 (ji12)) _ _ t716 t721 _ ?side1 ?side2 A15.out).mono ?_);(case side1=>repeat (first|exact (Kd.R_reads' HO719.out).2.2|(with_reducible refine Kd.C_alloc ?_ _)|(with_reducible refine Kd.C_drewN ?_ _)|(with_reducible refine Kd.C_drew ?_)));(case side2=>exact (Kd.R_reads' HO719.out).2.1);rintro e w35 ⟨v722,rfl,ho0,hb⟩;refine ⟨_,rfl,?_⟩;have n0_:=Aside0.mk (Kd.R_elder' (by (with_reducible repeat (first|apply Kd.R_alloc|apply Kd.R_drewN|apply Kd.R_drew));exact HO719.out) (Kd.R_base ho0) hb);have n1_:=Aside0.mk (Kd.R_lower (Kd.R_new' ho0 (Kd.R_lt (by (with_reducible repeat (first|apply Kd.R_alloc|apply Kd.R_drewN|apply Kd.R_drew));exact HO719.out))) (below_size (by repeat (first|(with_reducible first|exact HB.out|apply below_alloc|apply pw_below_drewN|apply below_drew1)|exact HB.out))));have n2_:=Aside0.mk (below_step (by repeat (first|(with_reducible first|exact HB.out|apply below_alloc|apply pw_below_drewN|apply below_drew1)|exact HB.out)) hb);clear HO719;clear HB;have HO719:=n0_;have HO723:=n1_;have HB:=n2_;clear n0_ n1_ n2_;(try clear hb);(try clear hb2);(try clear hk);(try clear hi);(try clear ho0))|((with_reducible refine gate_callee (f:=73) rfl ?_);refine goesL_ (some 52) rfl rfl Try.func73 (by kernel_rfl) rfl #[.slice (some ad720) l0.length c0] rfl (by (try simp only [List.map_toArray,List.map_cons,List.map_nil]);first|done|rfl|(simp only [List.length_drop,List.length_take];rfl)) ?_;(with_reducible refine (merkle_Texts.calls kj2 _ _ l0 t724 _ ?side1 ?side2 A16.out).mono ?_);(case side1=>repeat (first|exact (Kd.C_below HR0.out HB.out)|(with_reducible refine Kd.C_alloc ?_ _)|(with_reducible refine Kd.C_drewN ?_ _)|(with_reducible refine Kd.C_drew ?_)));(case side2=>exact HC0.out);rintro e w36 ⟨v725,rfl,ho0,hb⟩;refine ⟨_,rfl,?_⟩;have n0_:=Aside0.mk (Kd.R_elder' (by (with_reducible repeat (first|apply Kd.R_alloc|apply Kd.R_drewN|apply Kd.R_drew));exact HO719.out) (Kd.R_base ho0) hb);have n1_:=Aside0.mk (Kd.R_elder' (by (with_reducible repeat (first|apply Kd.R_alloc|apply Kd.R_drewN|apply Kd.R_drew));exact HO723.out) (Kd.R_base ho0) hb);have n2_:=Aside0.mk (Kd.R_lower (Kd.R_new' (Kd.R_new' ho0 (Kd.R_lt (by (with_reducible repeat (first|apply Kd.R_alloc|apply Kd.R_drewN|apply Kd.R_drew));exact HO719.out))) (Kd.R_lt (by (with_reducible repeat (first|apply Kd.R_alloc|apply Kd.R_drewN|apply Kd.R_drew));exact HO723.out))) (below_size (by repeat (first|(with_reducible first|exact HB.out|apply below_alloc|apply pw_below_drewN|apply below_drew1)|exact HB.out))));have n3_:=Aside0.mk (below_step (by repeat (first|(with_reducible first|exact HB.out|apply below_alloc|apply pw_below_drewN|apply below_drew1)|exact HB.out)) hb);clear HO719;clear HO723;clear HB;have HO719:=n0_;have HO723:=n1_;have HO726:=n2_;have HB:=n3_;clear n0_ n1_ n2_ n3_;(try clear hb);(try clear hb2);(try clear hk);(try clear hi);(try clear ho0);have p727:0≤((ji12):Int):=of_decide_eq_true (by first|(with_reducible assumption)|assumption);have q727:(ji12) < (l0.length:Int):=of_decide_eq_true (by first|(with_reducible assumption)|assumption);obtain ⟨ad727,e727,hx727_0⟩:=Kd.at_string HR0.out (ji12) p727 q727;obtain rfl:ad720=ad727:=(by injection e727);replace hx727_0:=(HB.out.cell (World.block_lt_of_cell? w _ hx727_0)).trans hx727_0;replace p727:=eq_true p727;replace q727:=eq_true q727)|(go_at_call 48;(with_reducible refine (merkle_Leaf.calls (rdOf ByteArray.empty l0 (ji12)) t728 _ A19.out).mono ?_);rintro e w37 ⟨rfl,hb⟩;have n0_:=Aside0.mk (Kd.R_below (by (with_reducible repeat (first|apply Kd.R_alloc|apply Kd.R_drewN|apply Kd.R_drew));exact HO719.out) hb);have n1_:=Aside0.mk (Kd.R_below (by (with_reducible repeat (first|apply Kd.R_alloc|apply Kd.R_drewN|apply Kd.R_drew));exact HO723.out) hb);have n2_:=Aside0.mk (Kd.R_below (by (with_reducible repeat (first|apply Kd.R_alloc|apply Kd.R_drewN|apply Kd.R_drew));exact HO726.out) hb);have n3_:=Aside0.mk (below_step (by repeat (first|(with_reducible first|exact HB.out|apply below_alloc|apply pw_below_drewN|apply below_drew1)|exact HB.out)) hb);clear HO719;clear HO723;clear HO726;clear HB;have HO719:=n0_;have HO723:=n1_;have HO726:=n2_;have HB:=n3_;clear n0_ n1_ n2_ n3_;(try clear hb);(try clear hb2);(try clear hk);(try clear hi))|(go_at_call 79;(with_reducible refine (merkle_Check.calls kj2 t714 (l0.length:Int) ji12 t728 _ _ t716 true _ ?side1 ?side2 A20.out).mono ?_);(case side1=>repeat (first|exact (Kd.R_reads' HO719.out).2.2|(with_reducible refine Kd.C_alloc ?_ _)|(with_reducible refine Kd.C_drewN ?_ _)|(with_reducible refine Kd.C_drew ?_)));(case side2=>exact (Kd.R_reads' HO719.out).2.1);rintro e w38 ⟨rfl,hb⟩;have n0_:=Aside0.mk (Kd.R_below (by (with_reducible repeat (first|apply Kd.R_alloc|apply Kd.R_drewN|apply Kd.R_drew));exact HO719.out) hb);have n1_:=Aside0.mk (Kd.R_below (by (with_reducible repeat (first|apply Kd.R_alloc|apply Kd.R_drewN|apply Kd.R_drew));exact HO723.out) hb);have n2_:=Aside0.mk (Kd.R_below (by (with_reducible repeat (first|apply Kd.R_alloc|apply Kd.R_drewN|apply Kd.R_drew));exact HO726.out) hb);have n3_:=Aside0.mk (below_step (by repeat (first|(with_reducible first|exact HB.out|apply below_alloc|apply pw_below_drewN|apply below_drew1)|exact HB.out)) hb);clear HO719;clear HO723;clear HO726;clear HB;have HO719:=n0_;have HO723:=n1_;have HO726:=n2_;have HB:=n3_;clear n0_ n1_ n2_ n3_;(try clear hb);(try clear hb2);(try clear hk);(try clear hi)))
                 have n0_:=Aside0.mk (Kd.R_drew HO719.out)
                 have n1_:=Aside0.mk (Kd.R_drew HO723.out)
                 have n2_:=Aside0.mk (Kd.R_drew HO726.out)
                 have n3_:=Aside0.mk (below_drew1 HB.out)
                 clear HO719
                 clear HO723
                 clear HO726
                 clear HB
                 have HO719:=n0_
                 have HO723:=n1_
                 have HO726:=n2_
                 have HB:=n3_
                 clear n0_ n1_ n2_ n3_
                 obtain ⟨As723,cs723,es723⟩:=Kd.R_slice HO723.out
                 subst es723
                 have p731:0≤((ji26):Int):=of_decide_eq_true (by first|(with_reducible assumption)|assumption)
                 have q731:(ji26) < (t721.length:Int):=of_decide_eq_true (by first|(with_reducible assumption)|assumption)
                 obtain ⟨ad731,e731,hx731_0⟩:=Kd.at_string (Kd.R_reads' HO723.out).2.2 (ji26) p731 q731
                 cases e731
                 obtain ⟨As726,cs726,es726⟩:=Kd.R_slice HO726.out
                 subst es726
                 replace p731:=eq_true p731
                 replace q731:=eq_true q731
                 have p732:0≤((ji29):Int):=of_decide_eq_true (by first|(with_reducible assumption)|assumption)
                 have q732:(ji29) < (t724.length:Int):=of_decide_eq_true (by first|(with_reducible assumption)|assumption)
                 obtain ⟨ad732,e732,hx732_0⟩:=Kd.at_string (Kd.R_reads' HO726.out).2.2 (ji29) p732 q732
                 cases e732
                 replace p732:=eq_true p732
                 replace q732:=eq_true q732
                 refine start_ (n:=30) (S:=fun w'=>w'.cell? (ad731.add ((ji26)).toNat)=some (.string (rdOf ByteArray.empty t721 (ji26)))∧w'.cell? (ad732.add ((ji29)).toNat)=some (.string (rdOf ByteArray.empty t724 (ji29)))) (ds:=[]) #[false,false,false,false,false,false,false,false,false,false,false,false,false,false,false,false,false,false,false,false,false,false,false,false,false,false,false,false,false,false] (by kernel_rfl) rfl rfl ⟨hx731_0,hx732_0⟩ (fun hHeld=>?_);refine with_tabW mosaiclaw03_MerkleProves.tab10 mosaiclaw03_MerkleProves.bits10 (fun HT_ HW_=>?_)
                 generalize w38.drew=w39 at HO719 HO723 HO726 HB hx731_0 hx732_0 hHeld ⊢
                 refine one_ (i:=0) (N:=some 73) #[true,false,false,false,false,false,false,false,false,false,false,false,false,false,false,false,false,false,false,false,false,false,false,false,false,false,false,false,false,false] rfl rfl (one_of HT_.out (by kernel_rfl)) (by decide) (fun K hK=>?_)
                 refine goes_ Try.func45 (by kernel_rfl) rfl #[] (by rfl) rfl rfl (by (try simp only [List.map_toArray,List.map_cons,List.map_nil]);first|done|rfl|(simp only [List.length_drop,List.length_take];rfl)) ?_
                 with_reducible refine (mosaiclaw03_awake.calls kj2  true _ A22.out).mono ?_
                 rintro e w40 ⟨rfl,hb⟩
                 have HS0_:=(hb.cell (World.block_lt_of_cell? _ _ (hHeld.1))).trans (hHeld.1)
                 have HS1_:=(hb.cell (World.block_lt_of_cell? _ _ (hHeld.2))).trans (hHeld.2)
                 refine ⟨_,rfl,?_⟩
                 have n0_:=Aside0.mk (Kd.R_below (by (with_reducible repeat (first|apply Kd.R_alloc|apply Kd.R_drewN|apply Kd.R_drew));exact HO719.out) hb)
                 have n1_:=Aside0.mk (Kd.R_below (by (with_reducible repeat (first|apply Kd.R_alloc|apply Kd.R_drewN|apply Kd.R_drew));exact HO723.out) hb)
                 have n2_:=Aside0.mk (Kd.R_below (by (with_reducible repeat (first|apply Kd.R_alloc|apply Kd.R_drewN|apply Kd.R_drew));exact HO726.out) hb)
                 have n3_:=Aside0.mk (below_step (by repeat (first|(with_reducible first|exact HB.out|apply below_alloc|apply pw_below_drewN|apply below_drew1)|exact HB.out)) hb)
                 clear HO719
                 clear HO723
                 clear HO726
                 clear HB
                 have HO719:=n0_
                 have HO723:=n1_
                 have HO726:=n2_
                 have HB:=n3_
                 clear n0_ n1_ n2_ n3_
                 (try clear hb)
                 (try clear hb2)
                 (try clear hk)
                 (try clear hi)
                 obtain ⟨Ao41,co41,eo41⟩:=Kd.R_slice HO723.out
                 (first|subst eo41|(injection eo41 with f1_ f2_ f3_;have f4_:=f1_.symm;have f5_:=f3_.symm;clear f1_ f2_ f3_;subst f4_;subst f5_))
                 obtain ⟨Ao42,co42,eo42⟩:=Kd.R_slice HO726.out
                 (first|subst eo42|(injection eo42 with f1_ f2_ f3_;have f4_:=f1_.symm;have f5_:=f3_.symm;clear f1_ f2_ f3_;subst f4_;subst f5_))
                 refine hK.out _ _ ⟨HS0_,HS1_⟩ (fun hHeld=>?_)
                 clear hK K
                 refine norm_ (a':=?_) ?_ ?_
                 rotate_left
                 ·
                  show Act.put _ (some 73) _=_
                  simp only [Act.put,List.setIfInBounds_toArray,List.set_cons_zero,List.set_cons_succ,i64_w,i32_w]
                  rfl
                 refine pure_ (i:=1) (N:=some 74) (v:=?_) (a':=?_) #[true,true,false,false,false,false,false,false,false,false,false,false,false,false,false,false,false,false,false,false,false,false,false,false,false,false,false,false,false,false] rfl rfl (any_of HT_.out (by kernel_rfl)) (fun _ _ _ h=>h) (Or.inl ⟨by rfl,?_⟩) ?_ ?_
                 rotate_left
                 ·
                  intro w'
                  go_simp
                  with_reducible rfl
                 rotate_left
                 ·
                  simp only [Act.put,List.setIfInBounds_toArray,List.set_cons_zero,List.set_cons_succ,i64_w,i32_w]
                  rfl
                 refine pure_ (i:=2) (N:=some 75) (v:=?_) (a':=?_) #[true,true,true,false,false,false,false,false,false,false,false,false,false,false,false,false,false,false,false,false,false,false,false,false,false,false,false,false,false,false] rfl rfl (any_of HT_.out (by kernel_rfl)) (fun _ _ _ h=>h) (Or.inl ⟨by rfl,?_⟩) ?_ ?_
                 rotate_left
                 ·
                  intro w'
                  go_simp
                  with_reducible rfl
                 rotate_left
                 ·
                  simp only [Act.put,List.setIfInBounds_toArray,List.set_cons_zero,List.set_cons_succ,i64_w,i32_w]
                  rfl
                 refine pure_ (i:=3) (N:=some 76) (v:=?_) (a':=?_) #[true,true,true,true,false,false,false,false,false,false,false,false,false,false,false,false,false,false,false,false,false,false,false,false,false,false,false,false,false,false] rfl rfl (any_of HT_.out (by kernel_rfl)) (fun _ _ _ h=>h) (Or.inl ⟨by rfl,?_⟩) ?_ ?_
                 rotate_left
                 ·
                  intro w'
                  go_simp
                  with_reducible rfl
                 rotate_left
                 ·
                  simp only [Act.put,List.setIfInBounds_toArray,List.set_cons_zero,List.set_cons_succ,i64_w,i32_w]
                  rfl
                 refine pure_ (i:=4) (N:=some 77) (v:=?_) (a':=?_) #[true,true,true,true,true,false,false,false,false,false,false,false,false,false,false,false,false,false,false,false,false,false,false,false,false,false,false,false,false,false] rfl rfl (any_of HT_.out (by kernel_rfl)) (fun _ _ _ h=>h) (Or.inl ⟨by rfl,?_⟩) ?_ ?_
                 rotate_left
                 ·
                  intro w'
                  go_simp
                  with_reducible rfl
                 rotate_left
                 ·
                  simp only [Act.put,List.setIfInBounds_toArray,List.set_cons_zero,List.set_cons_succ,i64_w,i32_w]
                  rfl
                 refine pure_ (i:=5) (N:=some 78) (v:=?_) (a':=?_) #[true,true,true,true,true,true,false,false,false,false,false,false,false,false,false,false,false,false,false,false,false,false,false,false,false,false,false,false,false,false] rfl rfl (any_of HT_.out (by kernel_rfl)) (fun _ _ _ h=>h) (Or.inl ⟨by rfl,?_⟩) ?_ ?_
                 rotate_left
                 ·
                  intro w'
                  go_simp
                  with_reducible rfl
                 rotate_left
                 ·
                  simp only [Act.put,List.setIfInBounds_toArray,List.set_cons_zero,List.set_cons_succ,i64_w,i32_w]
                  rfl
                 refine pure_ (i:=6) (N:=some 79) (v:=?_) (a':=?_) #[true,true,true,true,true,true,true,false,false,false,false,false,false,false,false,false,false,false,false,false,false,false,false,false,false,false,false,false,false,false] rfl rfl (any_of HT_.out (by kernel_rfl)) (fun _ _ _ h=>h) (Or.inl ⟨by rfl,?_⟩) ?_ ?_
                 rotate_left
                 ·
                  intro w'
                  go_simp
                  with_reducible rfl
                 rotate_left
                 ·
                  simp only [Act.put,List.setIfInBounds_toArray,List.set_cons_zero,List.set_cons_succ,i64_w,i32_w]
                  rfl
                 refine pure_ (i:=7) (N:=some 80) (v:=?_) (a':=?_) #[true,true,true,true,true,true,true,true,false,false,false,false,false,false,false,false,false,false,false,false,false,false,false,false,false,false,false,false,false,false] rfl rfl (any_of HT_.out (by kernel_rfl)) (fun _ _ _ h=>h) (Or.inl ⟨by rfl,?_⟩) ?_ ?_
                 rotate_left
                 ·
                  intro w'
                  go_simp
                  with_reducible rfl
                 rotate_left
                 ·
                  simp only [Act.put,List.setIfInBounds_toArray,List.set_cons_zero,List.set_cons_succ,i64_w,i32_w]
                  rfl
                 refine pure_ (i:=8) (N:=some 81) (v:=?_) (a':=?_) #[true,true,true,true,true,true,true,true,true,false,false,false,false,false,false,false,false,false,false,false,false,false,false,false,false,false,false,false,false,false] rfl rfl (any_of HT_.out (by kernel_rfl)) (fun _ _ _ h=>h) (Or.inl ⟨by rfl,?_⟩) ?_ ?_
                 rotate_left
                 ·
                  intro w'
                  go_simp
                  with_reducible rfl
                 rotate_left
                 ·
                  simp only [Act.put,List.setIfInBounds_toArray,List.set_cons_zero,List.set_cons_succ,i64_w,i32_w]
                  rfl
                 refine pure_ (i:=9) (N:=some 82) (v:=?_) (a':=?_) #[true,true,true,true,true,true,true,true,true,true,false,false,false,false,false,false,false,false,false,false,false,false,false,false,false,false,false,false,false,false] rfl rfl (any_of HT_.out (by kernel_rfl)) (fun _ _ _ h=>h) (Or.inl ⟨by rfl,?_⟩) ?_ ?_
                 rotate_left
                 ·
                  intro w'
                  go_simp
                  with_reducible rfl
                 rotate_left
                 ·
                  simp only [Act.put,List.setIfInBounds_toArray,List.set_cons_zero,List.set_cons_succ,i64_w,i32_w]
                  rfl
                 refine pure_ (i:=10) (N:=some 83) (v:=?_) (a':=?_) #[true,true,true,true,true,true,true,true,true,true,true,false,false,false,false,false,false,false,false,false,false,false,false,false,false,false,false,false,false,false] rfl rfl (any_of HT_.out (by kernel_rfl)) (fun _ _ _ h=>h) (Or.inl ⟨by rfl,?_⟩) ?_ ?_
                 rotate_left
                 ·
                  intro w'
                  go_simp
                  with_reducible rfl
                 rotate_left
                 ·
                  simp only [Act.put,List.setIfInBounds_toArray,List.set_cons_zero,List.set_cons_succ,i64_w,i32_w]
                  rfl
                 refine pure_ (i:=11) (N:=some 84) (v:=?_) (a':=?_) #[true,true,true,true,true,true,true,true,true,true,true,true,false,false,false,false,false,false,false,false,false,false,false,false,false,false,false,false,false,false] rfl rfl (any_of HT_.out (by kernel_rfl)) (fun _ _ _ h=>h) (Or.inl ⟨by rfl,?_⟩) ?_ ?_
                 rotate_left
                 ·
                  intro w'
                  go_simp
                  with_reducible rfl
                 rotate_left
                 ·
                  simp only [Act.put,List.setIfInBounds_toArray,List.set_cons_zero,List.set_cons_succ,i64_w,i32_w]
                  rfl
                 refine pure_ (i:=12) (N:=some 85) (v:=?_) (a':=?_) #[true,true,true,true,true,true,true,true,true,true,true,true,true,false,false,false,false,false,false,false,false,false,false,false,false,false,false,false,false,false] rfl rfl (any_of HT_.out (by kernel_rfl)) (fun _ _ _ h=>h) (Or.inl ⟨by rfl,?_⟩) ?_ ?_
                 rotate_left
                 ·
                  intro w'
                  go_simp
                  with_reducible rfl
                 rotate_left
                 ·
                  simp only [Act.put,List.setIfInBounds_toArray,List.set_cons_zero,List.set_cons_succ,i64_w,i32_w]
                  rfl
                 refine pure_ (i:=13) (N:=some 86) (v:=?_) (a':=?_) #[true,true,true,true,true,true,true,true,true,true,true,true,true,true,false,false,false,false,false,false,false,false,false,false,false,false,false,false,false,false] rfl rfl (any_of HT_.out (by kernel_rfl)) (fun _ _ _ h=>h) (Or.inl ⟨by rfl,?_⟩) ?_ ?_
                 rotate_left
                 ·
                  intro w'
                  go_simp
                  with_reducible rfl
                 rotate_left
                 ·
                  simp only [Act.put,List.setIfInBounds_toArray,List.set_cons_zero,List.set_cons_succ,i64_w,i32_w]
                  rfl
                 refine pure_ (i:=14) (N:=some 87) (v:=?_) (a':=?_) #[true,true,true,true,true,true,true,true,true,true,true,true,true,true,true,false,false,false,false,false,false,false,false,false,false,false,false,false,false,false] rfl rfl (any_of HT_.out (by kernel_rfl)) (fun _ _ _ h=>h) (Or.inl ⟨by rfl,?_⟩) ?_ ?_
                 rotate_left
                 ·
                  intro w'
                  go_simp
                  with_reducible rfl
                 rotate_left
                 ·
                  simp only [Act.put,List.setIfInBounds_toArray,List.set_cons_zero,List.set_cons_succ,i64_w,i32_w]
                  rfl
                 refine pure_ (i:=15) (N:=some 88) (v:=?_) (a':=?_) #[true,true,true,true,true,true,true,true,true,true,true,true,true,true,true,true,false,false,false,false,false,false,false,false,false,false,false,false,false,false] rfl rfl (any_of HT_.out (by kernel_rfl)) (fun _ _ _ h=>h) (Or.inl ⟨by rfl,?_⟩) ?_ ?_
                 rotate_left
                 ·
                  intro w'
                  go_simp
                  with_reducible rfl
                 rotate_left
                 ·
                  simp only [Act.put,List.setIfInBounds_toArray,List.set_cons_zero,List.set_cons_succ,i64_w,i32_w]
                  rfl
                 refine pure_ (i:=16) (N:=some 89) (v:=?_) (a':=?_) #[true,true,true,true,true,true,true,true,true,true,true,true,true,true,true,true,true,false,false,false,false,false,false,false,false,false,false,false,false,false] rfl rfl (any_of HT_.out (by kernel_rfl)) (fun _ _ _ h=>h) (Or.inl ⟨by rfl,?_⟩) ?_ ?_
                 rotate_left
                 ·
                  intro w'
                  go_simp
                  with_reducible rfl
                 rotate_left
                 ·
                  simp only [Act.put,List.setIfInBounds_toArray,List.set_cons_zero,List.set_cons_succ,i64_w,i32_w]
                  rfl
                 refine pure_ (i:=17) (N:=some 90) (v:=?_) (a':=?_) #[true,true,true,true,true,true,true,true,true,true,true,true,true,true,true,true,true,true,false,false,false,false,false,false,false,false,false,false,false,false] rfl rfl (any_of HT_.out (by kernel_rfl)) (fun _ _ _ h=>h) (Or.inl ⟨by rfl,?_⟩) ?_ ?_
                 rotate_left
                 ·
                  intro w'
                  go_simp
                  with_reducible rfl
                 rotate_left
                 ·
                  simp only [Act.put,List.setIfInBounds_toArray,List.set_cons_zero,List.set_cons_succ,i64_w,i32_w]
                  rfl
                 refine pure_ (i:=18) (N:=some 91) (v:=?_) (a':=?_) #[true,true,true,true,true,true,true,true,true,true,true,true,true,true,true,true,true,true,true,false,false,false,false,false,false,false,false,false,false,false] rfl rfl (any_of HT_.out (by kernel_rfl)) (fun _ _ _ h=>h) (Or.inl ⟨by rfl,?_⟩) ?_ ?_
                 rotate_left
                 ·
                  intro w'
                  go_simp
                  with_reducible rfl
                 rotate_left
                 ·
                  simp only [Act.put,List.setIfInBounds_toArray,List.set_cons_zero,List.set_cons_succ,i64_w,i32_w]
                  rfl
                 refine pure_ (i:=19) (N:=some 92) (v:=?_) (a':=?_) #[true,true,true,true,true,true,true,true,true,true,true,true,true,true,true,true,true,true,true,true,false,false,false,false,false,false,false,false,false,false] rfl rfl (any_of HT_.out (by kernel_rfl)) (fun _ _ _ h=>h) (Or.inl ⟨by rfl,?_⟩) ?_ ?_
                 rotate_left
                 ·
                  intro w'
                  go_simp
                  with_reducible rfl
                 rotate_left
                 ·
                  simp only [Act.put,List.setIfInBounds_toArray,List.set_cons_zero,List.set_cons_succ,i64_w,i32_w]
                  rfl
                 refine pure_ (i:=21) (N:=some 94) (v:=?_) (a':=?_) #[true,true,true,true,true,true,true,true,true,true,true,true,true,true,true,true,true,true,true,true,false,true,false,false,false,false,false,false,false,false] rfl rfl (any_of HT_.out (by kernel_rfl)) (fun _ _ _ h=>h) (Or.inl ⟨by rfl,?_⟩) ?_ ?_
                 rotate_left
                 ·
                  intro w'
                  go_simp
                  with_reducible rfl
                 rotate_left
                 ·
                  simp only [Act.put,List.setIfInBounds_toArray,List.set_cons_zero,List.set_cons_succ,i64_w,i32_w]
                  rfl
                 refine pure_ (i:=22) (N:=some 95) (v:=?_) (a':=?_) #[true,true,true,true,true,true,true,true,true,true,true,true,true,true,true,true,true,true,true,true,false,true,true,false,false,false,false,false,false,false] rfl rfl (any_of HT_.out (by kernel_rfl)) (fun _ _ _ h=>h) (Or.inl ⟨by rfl,?_⟩) ?_ ?_
                 rotate_left
                 ·
                  intro w'
                  go_simp
                  with_reducible rfl
                 rotate_left
                 ·
                  simp only [Act.put,List.setIfInBounds_toArray,List.set_cons_zero,List.set_cons_succ,i64_w,i32_w]
                  rfl
                 refine pure_ (i:=23) (N:=some 96) (v:=?_) (a':=?_) #[true,true,true,true,true,true,true,true,true,true,true,true,true,true,true,true,true,true,true,true,false,true,true,true,false,false,false,false,false,false] rfl rfl (any_of HT_.out (by kernel_rfl)) (fun _ _ _ h=>h) (Or.inl ⟨by rfl,?_⟩) ?_ ?_
                 rotate_left
                 ·
                  intro w'
                  go_simp
                  with_reducible rfl
                 rotate_left
                 ·
                  simp only [Act.put,List.setIfInBounds_toArray,List.set_cons_zero,List.set_cons_succ,i64_w,i32_w]
                  rfl
                 refine pure_ (i:=24) (N:=some 97) (v:=?_) (a':=?_) #[true,true,true,true,true,true,true,true,true,true,true,true,true,true,true,true,true,true,true,true,false,true,true,true,true,false,false,false,false,false] rfl rfl (any_of HT_.out (by kernel_rfl)) (fun _ _ _ h=>h) (Or.inl ⟨by rfl,?_⟩) ?_ ?_
                 rotate_left
                 ·
                  intro w'
                  go_simp
                  with_reducible rfl
                 rotate_left
                 ·
                  simp only [Act.put,List.setIfInBounds_toArray,List.set_cons_zero,List.set_cons_succ,i64_w,i32_w]
                  rfl
                 refine pure_ (i:=25) (N:=some 98) (v:=?_) (a':=?_) #[true,true,true,true,true,true,true,true,true,true,true,true,true,true,true,true,true,true,true,true,false,true,true,true,true,true,false,false,false,false] rfl rfl (any_of HT_.out (by kernel_rfl)) (fun _ _ _ h=>h) (Or.inl ⟨by rfl,?_⟩) ?_ ?_
                 rotate_left
                 ·
                  intro w'
                  go_simp
                  with_reducible rfl
                 rotate_left
                 ·
                  simp only [Act.put,List.setIfInBounds_toArray,List.set_cons_zero,List.set_cons_succ,i64_w,i32_w]
                  rfl
                 refine take_ (i:=20) (N:=some 93) (v:=?_) (a':=?_) #[true,true,true,true,true,true,true,true,true,true,true,true,true,true,true,true,true,true,true,true,true,true,true,true,true,true,false,false,false,false] rfl rfl (take_ofW HT_.out HW_.out (by kernel_rfl)) (fun _ _ _ h=>h) (Or.inl ⟨by rfl,?_⟩) hHeld ?_ ?_
                 rotate_left
                 ·
                  rintro w' ⟨s0,s1⟩
                  go_simp
                  with_reducible rfl
                 rotate_left
                 ·
                  simp only [Act.put,List.setIfInBounds_toArray,List.set_cons_zero,List.set_cons_succ,i64_w,i32_w]
                  rfl
                 refine take_ (i:=26) (N:=some 99) (v:=?_) (a':=?_) #[true,true,true,true,true,true,true,true,true,true,true,true,true,true,true,true,true,true,true,true,true,true,true,true,true,true,true,false,false,false] rfl rfl (take_ofW HT_.out HW_.out (by kernel_rfl)) (fun _ _ _ h=>h) (Or.inl ⟨by rfl,?_⟩) hHeld ?_ ?_
                 rotate_left
                 ·
                  rintro w' ⟨s0,s1⟩
                  go_simp
                  with_reducible rfl
                 rotate_left
                 ·
                  simp only [Act.put,List.setIfInBounds_toArray,List.set_cons_zero,List.set_cons_succ,i64_w,i32_w]
                  rfl
                 refine pure_ (i:=27) (N:=some 100) (v:=?_) (a':=?_) #[true,true,true,true,true,true,true,true,true,true,true,true,true,true,true,true,true,true,true,true,true,true,true,true,true,true,true,true,false,false] rfl rfl (any_of HT_.out (by kernel_rfl)) (fun _ _ _ h=>h) (Or.inl ⟨by rfl,?_⟩) ?_ ?_
                 rotate_left
                 ·
                  intro w'
                  go_simp
                  with_reducible rfl
                 rotate_left
                 ·
                  simp only [Act.put,List.setIfInBounds_toArray,List.set_cons_zero,List.set_cons_succ,i64_w,i32_w]
                  rfl
                 refine pure_ (i:=28) (N:=some 101) (v:=?_) (a':=?_) #[true,true,true,true,true,true,true,true,true,true,true,true,true,true,true,true,true,true,true,true,true,true,true,true,true,true,true,true,true,false] rfl rfl (any_of HT_.out (by kernel_rfl)) (fun _ _ _ h=>h) (Or.inl ⟨by rfl,?_⟩) ?_ ?_
                 rotate_left
                 ·
                  intro w'
                  go_simp
                  with_reducible rfl
                 rotate_left
                 ·
                  simp only [Act.put,List.setIfInBounds_toArray,List.set_cons_zero,List.set_cons_succ,i64_w,i32_w]
                  rfl
                 refine pure_ (i:=29) (N:=some 4) (v:=?_) (a':=?_) #[true,true,true,true,true,true,true,true,true,true,true,true,true,true,true,true,true,true,true,true,true,true,true,true,true,true,true,true,true,true] rfl rfl (any_of HT_.out (by kernel_rfl)) (fun _ _ _ h=>h) (Or.inl ⟨by rfl,?_⟩) ?_ ?_
                 rotate_left
                 ·
                  intro w'
                  go_simp
                  with_reducible rfl
                 rotate_left
                 ·
                  simp only [Act.put,List.setIfInBounds_toArray,List.set_cons_zero,List.set_cons_succ,i64_w,i32_w]
                  rfl
                 refine done_ (done_of HT_.out (by kernel_rfl)) ?_
                 try go_wp2
                 go_ret
                 exact ⟨by first|rfl|(simp [errW_none,errW_some] <;> rfl)|(simp only [← hji12,← hji26,← hji29];first|rfl|(simp [errW_none,errW_some] <;> rfl))|(simp [*,errW_none,errW_some] <;> rfl),by repeat (first|(with_reducible first|exact HB.out|apply below_alloc|apply pw_below_drewN|apply below_drew1)|exact HB.out)⟩
                ·
                 rw [if_neg c31] at H
                 exact absurd H (by simp)
               ·
                rw [if_neg c30] at H
                exact absurd H (by simp)
              ·
               rw [if_neg c28] at H
               exact absurd H (by simp)
             ·
              rw [if_neg c27] at H
              exact absurd H (by simp)
            ·
             rw [if_neg c25] at H
             have c25b0:decide (0 < (t724.length:Int))=false:=decide_eq_false c25
             have c25b1:decide (0 < t724.length)=false:=decide_eq_false (by omega)
             clear c25
             exact absurd (Option.some.inj H) (by simp)
           ·
            rw [if_neg c24] at H
            have c24b0:((t721.length:Int) == (wrap64 ((t716.length:Int)+1)))=false:=beq_eq_false_iff_ne.mpr c24
            have c24b1:((t721.length:Int) != (wrap64 ((t716.length:Int)+1)))=true:=bne_iff_ne.mpr c24
            exact absurd (Option.some.inj H) (by simp)
          ·
           replace c23:=Bool.eq_false_iff.mpr c23
           subst c23
           have H1:(some false)=some true:=by rw [if_neg (show ¬ (false=true) by decide)] at H;exact H
           clear H
           have H:=H1
           clear H1
           exact absurd (Option.some.inj H) (by simp)
         ·
          replace c21:=Bool.eq_false_iff.mpr c21
          subst c21
          have H1:(some false)=some true:=by rw [if_neg (show ¬ (false=true) by decide)] at H;exact H
          clear H
          have H:=H1
          clear H1
          exact absurd (Option.some.inj H) (by simp)
        ·
         rw [if_neg c18] at H
         have c18b0:(t717 == 0)=false:=beq_eq_false_iff_ne.mpr c18
         have c18b1:(t717 != 0)=true:=bne_iff_ne.mpr c18
         exact absurd (Option.some.inj H) (by simp)
       ·
        rw [if_neg c17] at H
        have c17b0:(t715 == 0)=false:=beq_eq_false_iff_ne.mpr c17
        have c17b1:(t715 != 0)=true:=bne_iff_ne.mpr c17
        exact absurd (Option.some.inj H) (by simp)
      ·
       rw [if_neg c14] at H
       exact absurd H (by simp)
     ·
      rw [if_neg c13] at H
      exact absurd H (by simp)
end Go.Proofs.Ytelcaepenfjloaa.Print
/-! #### StmMerkleProves -/
namespace Go.Proofs.Ytelcaepenfjloaa.Print
open Go.RowKit Go.Proofs.YtelcaepenfjloaaW.PrintWords
/-- THE ONE PURE STATEMENT of mosaiclaw03_MerkleProves. -/
def mosaiclaw03_MerkleProves.Pure:Prop:=∀ (l0:List ByteArray) (a1:Int),((l0:List ByteArray).length≤maxLen∧∀ x1_∈(l0:List ByteArray),(x1_:ByteArray).size≤maxLen)→((Lit.int .i64 a1).wf=true)→∃ k,mosaiclaw03_MerkleProves.f k l0 a1=some true
end Go.Proofs.Ytelcaepenfjloaa.Print
/-! #### Pr49 -/
namespace Go.Proofs.Ytelcaepenfjloaa.Print
open Go.RowKit Go.Proofs.YtelcaepenfjloaaW.PrintWords Go.Proofs.YtelcaepenfjloaaW.PrintLast Go.Proofs.YtelcaepenfjloaaW.PrintMore
attribute [local go_sem] max2_int min2_int max_two min_two max_three min_three max_four min_four
set_option linter.unusedVariables false
set_option linter.unusedSimpArgs false
/-! ### mosaicref03_LeafText: function 49 -/
def mosaicref03_LeafText.f (a0:ByteArray):Option (ByteArray):=if 1+a0.size≤9223372036854775807 then (some ((⟨#[0]⟩:ByteArray) ++ a0)) else (none)
set_option maxHeartbeats 8000000 in
set_option maxRecDepth 100000 in
theorem mosaicref03_LeafText.calls (a0:ByteArray) (r:ByteArray) (w:World) (h:mosaicref03_LeafText.f a0=some r) :
  Calls Try.prog 49 #[.string a0] w fun e w'=>e=.returned (.string r)∧Drawn0 w w':=by
 have H:(if 1+a0.size≤9223372036854775807 then (some ((⟨#[0]⟩:ByteArray) ++ a0)) else (none))=some r:=h
 clear h
 by_cases c2:1+a0.size≤9223372036854775807
 ·
  rw [if_pos c2] at H
  have c2b0:=eq_true c2
  have c2b1:decide (1+a0.size≤9223372036854775807)=true:=decide_eq_true c2
  try have c2b2:(9223372036854775807 < 1+a0.size)=False:=eq_false (Nat.not_lt.2 c2)
  obtain rfl:=Option.some.inj H
  go_enter Try.func49,Try.ntmps49
  go_wp2
  go_ret
  exact ⟨by first|rfl|(simp;done)|(simp [*];done),by repeat (first|exact Drawn0.refl _|apply Drawn0.step)⟩
 ·
  rw [if_neg c2] at H
  exact absurd H (by simp)
end Go.Proofs.Ytelcaepenfjloaa.Print
/-! #### Pr51 -/
namespace Go.Proofs.Ytelcaepenfjloaa.Print
open Go.RowKit Go.Proofs.YtelcaepenfjloaaW.PrintWords Go.Proofs.YtelcaepenfjloaaW.PrintLast Go.Proofs.YtelcaepenfjloaaW.PrintMore
attribute [local go_sem] max2_int min2_int max_two min_two max_three min_three max_four min_four
set_option linter.unusedVariables false
set_option linter.unusedSimpArgs false
/-! ### mosaicref03_KnotText: function 51 -/
def mosaicref03_KnotText.f (a0:ByteArray) (a1:ByteArray):Option (ByteArray):=if 1+a0.size≤9223372036854775807 then (if ((⟨#[1]⟩:ByteArray) ++ a0).size+a1.size≤9223372036854775807 then (some (((⟨#[1]⟩:ByteArray) ++ a0) ++ a1)) else (none)) else (none)
set_option maxHeartbeats 8000000 in
set_option maxRecDepth 100000 in
theorem mosaicref03_KnotText.calls (a0:ByteArray) (a1:ByteArray) (r:ByteArray) (w:World) (h:mosaicref03_KnotText.f a0 a1=some r) :
  Calls Try.prog 51 #[.string a0,.string a1] w fun e w'=>e=.returned (.string r)∧Drawn0 w w':=by
 have H:(if 1+a0.size≤9223372036854775807 then (if ((⟨#[1]⟩:ByteArray) ++ a0).size+a1.size≤9223372036854775807 then (some (((⟨#[1]⟩:ByteArray) ++ a0) ++ a1)) else (none)) else (none))=some r:=h
 clear h
 by_cases c3:1+a0.size≤9223372036854775807
 ·
  rw [if_pos c3] at H
  have c3b0:=eq_true c3
  have c3b1:decide (1+a0.size≤9223372036854775807)=true:=decide_eq_true c3
  try have c3b2:(9223372036854775807 < 1+a0.size)=False:=eq_false (Nat.not_lt.2 c3)
  by_cases c4:((⟨#[1]⟩:ByteArray) ++ a0).size+a1.size≤9223372036854775807
  ·
   rw [if_pos c4] at H
   have c4b0:=eq_true c4
   have c4b1:decide (((⟨#[1]⟩:ByteArray) ++ a0).size+a1.size≤9223372036854775807)=true:=decide_eq_true c4
   try have c4b2:(9223372036854775807 < ((⟨#[1]⟩:ByteArray) ++ a0).size+a1.size)=False:=eq_false (Nat.not_lt.2 c4)
   obtain rfl:=Option.some.inj H
   go_enter Try.func51,Try.ntmps51
   go_wp2
   go_ret
   exact ⟨by first|rfl|(simp;done)|(simp [*];done),by repeat (first|exact Drawn0.refl _|apply Drawn0.step)⟩
  ·
   rw [if_neg c4] at H
   exact absurd H (by simp)
 ·
  rw [if_neg c3] at H
  exact absurd H (by simp)
end Go.Proofs.Ytelcaepenfjloaa.Print
/-! #### Pr99 -/
namespace Go.Proofs.Ytelcaepenfjloaa.Print
open Go.RowKit Go.Proofs.YtelcaepenfjloaaW.PrintWords Go.Proofs.YtelcaepenfjloaaW.PrintLast Go.Proofs.YtelcaepenfjloaaW.PrintMore
attribute [local go_sem] max2_int min2_int max_two min_two max_three min_three max_four min_four
set_option linter.unusedVariables false
set_option linter.unusedSimpArgs false
/-! ### mosaicref03_half: function 99 -/
def mosaicref03_half.l0:Nat→Int→Int→Option (Int)
 | 0,_,_=>none
 | k+1,x0,x3=>if (wrap64 (x3 * 2)) < x0 then (mosaicref03_half.l0 k x0 (wrap64 (x3 * 2))) else (some x3)
def mosaicref03_half.f (k:Nat) (a0:Int):Option (Int):=mosaicref03_half.l0 k a0 1
theorem mosaicref03_half.mono_l:∀ k,(∀ y0 y1,LeO (mosaicref03_half.l0 k y0 y1) (mosaicref03_half.l0 (k+1) y0 y1))
 | 0=>fun _ _ r h=>by simp [mosaicref03_half.l0] at h
 | k+1=>by
  have ih0:=mosaicref03_half.mono_l k
  ·
   intro y0 y1
   unfold mosaicref03_half.l0
   repeat' first
   | (with_reducible exact ih0 _ _)
   | (with_reducible exact LeO.refl _)
   | (with_reducible exact LeO.none _)
   | (with_reducible refine LeO.ite ?_ ?_)
   | (with_reducible refine LeO.bind ?_ (fun _=>?_))
   | exact ih0 _ _
   | exact LeO.none _
   | refine LeO.ite ?_ ?_
   | refine LeO.bind ?_ (fun _=>?_)
theorem mosaicref03_half.mono:∀ a0 k,LeO (mosaicref03_half.f k a0) (mosaicref03_half.f (k+1) a0):=by
 intro a0 k
 have ih0:=mosaicref03_half.mono_l k
 unfold mosaicref03_half.f
 repeat' first
   | (with_reducible exact ih0 _ _)
   | (with_reducible exact LeO.refl _)
   | (with_reducible exact LeO.none _)
   | (with_reducible refine LeO.ite ?_ ?_)
   | (with_reducible refine LeO.bind ?_ (fun _=>?_))
   | exact ih0 _ _
   | exact LeO.none _
   | refine LeO.ite ?_ ?_
   | refine LeO.bind ?_ (fun _=>?_)
set_option maxHeartbeats 8000000 in
set_option maxRecDepth 100000 in
theorem mosaicref03_half.calls (k:Nat) (a0:Int) (r:Int) (w:World) (h:mosaicref03_half.f k a0=some r) :
  Calls Try.prog 99 #[.int .i64 a0] w fun e w'=>e=.returned (.int .i64 r)∧Drawn0 w w':=by
 have H:(mosaicref03_half.l0 k a0 1)=some r:=h
 clear h
 have H':=Aside0.mk H
 clear H
 go_enter Try.func99,Try.ntmps99
 go_wp2
 go_loopg [3] k (fun kq v3 w'=>∃ (x3_1:Int),v3=.int .i64 x3_1∧Aside0 (mosaicref03_half.l0 kq a0 x3_1=some r)∧Aside0 (kq≤k)∧Drawn0 w w')
 case atStart=>exact ⟨(1),(by first|rfl|(simp;done)|(simp [*];done)),H',⟨Nat.le_refl _⟩,by repeat (first|exact Drawn0.refl _|apply Drawn0.step)⟩
 case round =>
  clear H'
  obtain ⟨x3_1,rfl,HA,HK1,⟨m1,rfl⟩⟩:=hrel
  cases gk with
  | zero=>exact absurd HA.out (by simp [mosaicref03_half.l0])
  | succ k1 =>
   have H:=HA.out
   clear HA
   simp only [mosaicref03_half.l0] at H
   by_cases c2:(wrap64 (x3_1 * 2)) < a0
   ·
    rw [if_pos c2] at H
    have c2b0:decide ((wrap64 (x3_1 * 2)) < a0)=true:=decide_eq_true c2
    clear c2
    have H':=Aside0.mk H
    clear H
    go_wp2
    go_roundg k1
    case measure=>have:=HK1.out;omega
    case rel=>exact ⟨(wrap64 (x3_1 * 2)),(by first|rfl|(simp;done)|(simp [*];done)),H',⟨by have:=HK1.out;omega⟩,by repeat (first|exact Drawn0.refl _|apply Drawn0.step)⟩
   ·
    rw [if_neg c2] at H
    have c2b0:decide ((wrap64 (x3_1 * 2)) < a0)=false:=decide_eq_false c2
    clear c2
    obtain rfl:=Option.some.inj H
    go_wp2
    go_ret
    exact ⟨by first|rfl|(simp;done)|(simp [*];done),by repeat (first|exact Drawn0.refl _|apply Drawn0.step)⟩
end Go.Proofs.Ytelcaepenfjloaa.Print
/-! #### MaShaHex -/
/- sha.Hex: bytes in hexadecimal digits (strings.Builder). -/
namespace Go.Proofs.Ytelcaepenfjloaa.Print
open Go.RowKit Go.Proofs.YtelcaepenfjloaaW.PrintWords Go.Proofs.YtelcaepenfjloaaW.PrintLast Go.Proofs.YtelcaepenfjloaaW.PrintMore
open Go.Shelf
set_option linter.unusedVariables false
set_option linter.unusedSimpArgs false
def lays169_ren:Go.Shelf.Ren:=⟨fun|169=>90|n=>n,fun|70=>119|9=>9|0=>0|72=>121|37=>47|127=>148|3=>3|5=>5|n=>n,fun|n=>n⟩
theorem lays169:Go.Proofs.Lays.n169 Try.prog lays169_ren:={
 mixed:=by kernel_rfl
 f169:=Try.func90.trans (congrArg some (by kernel_rfl))
 t0:=Try.underlying0
 a0:=Try.isAgg0
 z0:=Try.sizeOf0
 v0:=Try.zeroValue0
 t3:=Try.underlying3
 a3:=Try.isAgg3
 z3:=Try.sizeOf3
 v3:=Try.zeroValue3
 t9:=Try.underlying9
 a9:=Try.isAgg9
 z9:=Try.sizeOf9
 v9:=Try.zeroValue9
 t37:=Try.underlying47
 a37:=Try.isAgg47
 z37:=Try.sizeOf47
 v37:=Try.zeroValue47
 t70:=Try.underlying119
 a70:=Try.isAgg119
 z70:=Try.sizeOf119
 v70:=Try.zeroValue119
 t72:=Try.underlying121
 a72:=Try.isAgg121
 z72:=Try.sizeOf121
 v72:=Try.zeroValue121
 t127:=Try.underlying148
 a127:=Try.isAgg148
 z127:=Try.sizeOf148
 v127:=Try.zeroValue148 }
theorem Builder_Extra_169:Go.Proofs.Builder.Extra Try.prog lays169_ren:={
 sizeBuilder:=by kernel_rfl
 liesBuilder:=by kernel_rfl
 t5:=Try.underlying5
 a5:=Try.isAgg5
 z5:=Try.sizeOf5
 v5:=Try.zeroValue5
 infoByte:=by kernel_rfl
 cellsByte:=by kernel_rfl
 sizeByte:=by kernel_rfl
 neB5:=by decide }
/-- What a builder that the call has made holds, handed back as a text. -/
theorem builderString_calls (B b:Nat) (l:List UInt8) (w:World) (h:Lib.IsBuilder 121 5 B b (Lib.byteCells l) w) (hBw:B≤w.heap.size) :
  Calls Try.prog 90 #[.pointer (some ⟨b,0,none⟩)] w fun e w'=>e=.returned (.string ⟨l.toArray⟩)∧Below B w w':=Go.Proofs.Any.Builder_String_any lays169 Builder_Extra_169 B b l w h hBw
theorem infoByte_:(Try.prog.info? 5).map (fun i=>(i.zero,i.size,i.bytes))=some (some (.int .u8 0),1,1):=by kernel_rfl
set_option maxHeartbeats 1000000 in
set_option maxRecDepth 100000 in
theorem copyCheck_used (b:Nat) (w:World) (h0:w.cell? ⟨b,0,none⟩=some (.pointer (some ⟨b,0,none⟩))) :
  Calls Try.prog 116 #[.pointer (some ⟨b,0,none⟩)] w fun e w'=>e=.returned (.tuple #[])∧w'=w:=by
 obtain ⟨j,hj,_⟩:=Option.map_eq_some_iff.1 Builder_Extra_169.sizeBuilder
 go_enter Try.func116,Try.ntmps116
 go_wp2
 rw [Lib.run_neq_ptr_same w _ Try.underlying119 hj]
 go_wp2
 go_end0
 exact ⟨rfl,rfl⟩
set_option maxHeartbeats 1000000 in
set_option maxRecDepth 100000 in
theorem copyCheck_fresh (b:Nat) (w:World) (h0:w.cell? ⟨b,0,none⟩=some (.pointer none)) (hsh:w.shape? b=some (121,2)) (hfz:w.frozen? ⟨b,0,none⟩=false) :
  Calls Try.prog 116 #[.pointer (some ⟨b,0,none⟩)] w fun e w'=>e=.returned (.tuple #[])∧w'=w.setCell ⟨b,0,none⟩ (.pointer (some ⟨b,0,none⟩)):=by
 obtain ⟨j,hj,hjs⟩:=Option.map_eq_some_iff.1 Builder_Extra_169.sizeBuilder
 go_enter Try.func116,Try.ntmps116
 go_wp2
 rw [Lib.run_to_unsafe w ⟨b,0,none⟩ Try.underlying119 Try.underlying152 hj (by rw [hjs];decide) hsh (Nat.zero_lt_succ 1)]
 simp only [Result.andThen]
 rw [Oper.upon_value]
 go_wp2
 rw [run_callFunc_extern Try.func125 (by kernel_rfl) (by kernel_rfl) (by kernel_rfl) (e:=Extern.AbiNoEscape.same) (by kernel_rfl)]
 rw [Lib.run_noEscape]
 simp only [Result.andThen]
 rw [Oper.upon_value]
 go_wp2
 rw [Lib.run_from_unsafe w ⟨b,0,none⟩ Try.underlying152 Try.underlying119 hj hsh Builder_Extra_169.liesBuilder]
 simp only [Result.andThen]
 rw [Oper.upon_value]
 go_wp2
 go_end0
 exact ⟨rfl,rfl⟩
theorem copyCheck_calls (B b:Nat) (bs:List Value) (w:World) (h:Lib.IsBuilder 121 5 B b bs w) :
  Calls Try.prog 116 #[.pointer (some ⟨b,0,none⟩)] w fun e w'=>e=.returned (.tuple #[])∧(Lib.BuilderAt 121 5 B b (.pointer (some ⟨b,0,none⟩)) bs w'∧Below B w w'):=by
 rcases h with h|h
 ·
  refine (copyCheck_fresh b w h.cell0 h.shape h.frozen0).mono ?_
  rintro e w' ⟨rfl,rfl⟩
  exact ⟨rfl,h.used _,(Below.refl B w).setCell (p:=⟨b,0,none⟩) h.1 _⟩
 ·
  refine (copyCheck_used b w h.cell0).mono ?_
  rintro e w' ⟨rfl,rfl⟩
  exact ⟨rfl,h,Below.refl B _⟩
set_option maxHeartbeats 2000000 in
set_option maxRecDepth 100000 in
theorem writeByte_calls (B b:Nat) (bs:List Value) (c:Int) (w:World) (h:Lib.IsBuilder 121 5 B b bs w) (hlen:bs.length+1≤140737488355328) (hBw:B≤w.heap.size) :
  Calls Try.prog 89 #[.pointer (some ⟨b,0,none⟩),.int .u8 c] w fun e w'=>e=.returned .nilIface∧(Lib.BuilderAt 121 5 B b (.pointer (some ⟨b,0,none⟩)) (bs ++ [.int .u8 c]) w'∧Below B w w'):=by
 obtain ⟨i0,hi,hz0,hz1,hz2⟩:=info_parts infoByte_
 go_enter Try.func89,Try.ntmps89
 go_wp2_with (go_at_call 116;refine (copyCheck_calls B b bs _ h).mono ?_)
 rintro e w1 ⟨rfl,h1,hb1⟩
 obtain ⟨hB,v,hbk,hown,hne⟩:=h1
 have c0:w1.cell? ⟨b,0,none⟩=some (.pointer (some ⟨b,0,none⟩)):=by rw [Lib.cell_of_heap hbk];rfl
 have c1:w1.cell? ⟨b,1,none⟩=some v:=by rw [Lib.cell_of_heap hbk];rfl
 go_wp2_with (at_builtin;refine wpList_append_own _ rfl _ _ 47 rfl B 5 i0 (.int .u8 0) 1 1 Try.underlying47 hi hz0 hz1 hz2 rfl (by decide) _ _ _ rfl (hown.alloc _) ⟨w1.heap.size,0,none⟩ 1 1 [.int .u8 c] rfl rfl ?c1 ?c2 ?c3 ?c4 ?c5 ?_)
 case c1 =>
  intro j u hj
  match j,hj with
  | 0,hj=>simp at hj;subst hj;simp [Addr.add]
 case c2=>intro u hu;simp at hu;subst hu;rfl
 case c3=>unfold maxLen;omega
 case c4=>omega
 case c5=>have:=hb1.size;simp;omega
 intro v' w2 hown' hgrow _
 have hlt:b < w1.heap.size:=by
  rcases Nat.lt_or_ge b w1.heap.size with h'|h'
  ·
   exact h'
  ·
   simp [Array.getElem?_eq_none h'] at hbk
 have hb2:w2.heap[b]?=some (.cells #[.pointer (some ⟨b,0,none⟩),v] 121 (0,0)):=by
  rw [hgrow.block b (by simp;omega) (fun e=>hne e.symm),Lib.alloc_old w1 _ b hlt]
  exact hbk
 have d0:w2.cell? ⟨b,0,none⟩=some (.pointer (some ⟨b,0,none⟩)):=by rw [Lib.cell_of_heap hb2];rfl
 have d1:w2.cell? ⟨b,1,none⟩=some v:=by rw [Lib.cell_of_heap hb2];rfl
 have f1:w2.frozen? ⟨b,1,none⟩=false:=Lib.frozen_of_heap hb2 1
 obtain ⟨g,cap,rfl⟩:∃ g cap,v'=.slice (some ⟨g,0,none⟩) (bs.length+1) cap:=by
  rcases hown'.2 with ⟨_,h0⟩|⟨g,cap,cur,hv,_⟩
  ·
   omega
  ·
   exact ⟨g,cap,hv⟩
 go_wp2
 go_ret
 refine ⟨rfl,?_,?_⟩
 ·
  exact Lib.BuilderAt.put (T:=121) (e:=5) hB hb2 (bs':=bs ++ [.int .u8 c]) (by simpa using hown') (by decide)
 ·
  exact ((hb1.alloc (by have:=hb1.size;omega) _).grown hgrow (by have:=hb1.size;simp;omega) (fun k hk=>(hown.lt k hk).1)).setCell (p:=⟨b,1,none⟩) hB _
def hexDigits:ByteArray:=⟨#[48,49,50,51,52,53,54,55,56,57,97,98,99,100,101,102]⟩
def hexTwo (c:Int):List Int:=[bt hexDigits (c / 16),bt hexDigits (c % 16)]
def hexL (l:List Int):List Int:=l.flatMap hexTwo
def sha_Hex.f (a0:ByteArray):Option ByteArray:=if a0.size≤70368744177664 then some (strOfNums (hexL (bytesOf a0))) else none
theorem hexL_step (l:List Int) (i:Nat) (h:i < l.length):hexL (l.take (i+1))=hexL (l.take i) ++ hexTwo (l.getD i 0):=by
 unfold hexL
 rw [List.take_succ_eq_append_getElem h,List.flatMap_append,List.getD_eq_getElem?_getD,List.getElem?_eq_getElem h]
 simp
theorem hexL_length (l:List Int):(hexL l).length=2 * l.length:=by
 induction l with
 | nil=>rfl
 | cons a l ih=>rw [hexL,List.flatMap_cons,List.length_append,← hexL,ih];simp [hexTwo];omega
theorem nums_bytes (xs:List Int) (h:∀ x∈xs,0≤x∧x≤255):nums .u8 xs=Lib.byteCells (xs.map fun n=>UInt8.ofNat n.toNat):=by
 unfold nums Lib.byteCells
 rw [List.map_map]
 refine List.map_congr_left fun x hx=>?_
 have:=h x hx
 have e:(UInt8.ofNat x.toNat).toNat=x.toNat:=UInt8.toNat_ofNat_of_lt' (by show x.toNat < 256;omega)
 simp only [Function.comp,e]
 congr 1
 omega
theorem hexL_range (l:List Int):∀ x∈hexL l,0≤x∧x≤255:=by
 intro x hx
 obtain ⟨c,_,hc⟩:=List.mem_flatMap.1 hx
 simp only [hexTwo,List.mem_cons,List.not_mem_nil,or_false] at hc
 rcases hc with rfl|rfl
 ·
  exact bt_range _ _
 ·
  exact bt_range _ _
set_option maxHeartbeats 800000 in
set_option maxRecDepth 100000 in
theorem sha_Hex.calls (a0:ByteArray) (r:ByteArray) (w:World) (h:sha_Hex.f a0=some r) :
  Calls Try.prog 42 #[.string a0] w fun e w'=>e=.returned (.string r)∧Below w.heap.size w w':=by
 unfold sha_Hex.f at h
 by_cases hs:a0.size≤70368744177664
 ·
  rw [if_pos hs] at h
  have hr:=(Option.some.inj h).symm
  clear h
  have HR:=Aside0.mk hr
  clear hr
  go_enter Try.func42,Try.ntmps42
  go_wp2
  go_loopg [4,7] (a0.size+1) (fun gg _ v7 wr=>∃ i:Nat,i+gg=a0.size+1∧v7=.int .i64 (i:Int)∧Aside0 (Lib.IsBuilder 121 5 w.heap.size w.heap.size (nums .u8 (hexL ((bytesOf a0).take i))) wr)∧Aside0 (Below w.heap.size w wr))
  case atStart=>exact ⟨0,by omega,rfl,⟨.inl ⟨Nat.le_refl _,_,heap_alloc_new _ _,World.ownsRow_nil ..,by simp [Value.ownBlock]⟩⟩,⟨below_alloc (Below.refl _ _) _⟩⟩
  case round =>
   obtain ⟨i,hi,rfl,HO,HB⟩:=hrel
   by_cases hlt:i < a0.size
   ·
    obtain ⟨gg,rfl⟩:∃ m,gk=m+1:=⟨gk - 1,by omega⟩
    have hltz:(i:Int) < (a0.size:Int):=by omega
    have p0:0≤(i:Int):=by omega
    have hx:((a0[i]'hlt).toNat:Int)=bt a0 (i:Int):=bt_at a0 (i:Int) hlt
    have hst:=hexL_step (bytesOf a0) i (by rw [bytesOf_length];exact hlt)
    rw [show (bytesOf a0).getD i 0=bt a0 (i:Int) by rw [← rd_bytesOf];simp [rd]] at hst
    have hlen:(nums .u8 (hexL ((bytesOf a0).take i))).length+2≤140737488355328:=by
     rw [nums_length,hexL_length,List.length_take]
     omega
    have hrg:=bt_range a0 (i:Int)
    generalize bt a0 (i:Int)=c at hx hst hrg
    generalize hbs:hexL ((bytesOf a0).take i)=bs at HO hst hlen
    have HST:=Aside0.mk hst
    have HLEN:=Aside0.mk hlen
    clear hst hlen hbs
    obtain ⟨j1,hj1⟩:∃ j:Int,c / 16=j:=⟨_,rfl⟩
    obtain ⟨j2,hj2⟩:∃ j:Int,Go.bits .and .u8 c 15=j:=⟨_,rfl⟩
    have e2:c % 16=j2:=by rw [← hj2,u8_and15 c hrg.1 (by omega)]
    have p1:0≤j1:=by omega
    have q1:j1 < 16:=by omega
    have p2:0≤j2:=by omega
    have q2:j2 < 16:=by omega
    have hx1:=bt_at (⟨#[48,49,50,51,52,53,54,55,56,57,97,98,99,100,101,102]⟩:ByteArray) j1
    have hx2:=bt_at (⟨#[48,49,50,51,52,53,54,55,56,57,97,98,99,100,101,102]⟩:ByteArray) j2
    have E1:=Aside0.mk hj1
    have E2:=Aside0.mk e2
    clear e2
    obtain ⟨d1,hd1⟩:∃ j:Int,bt (⟨#[48,49,50,51,52,53,54,55,56,57,97,98,99,100,101,102]⟩:ByteArray) j1=j:=⟨_,rfl⟩
    obtain ⟨d2,hd2⟩:∃ j:Int,bt (⟨#[48,49,50,51,52,53,54,55,56,57,97,98,99,100,101,102]⟩:ByteArray) j2=j:=⟨_,rfl⟩
    rw [hd1] at hx1
    rw [hd2] at hx2
    have D1:=Aside0.mk hd1
    have D2:=Aside0.mk hd2
    clear hd1 hd2 hrg
    go_wp2_with (first
     | (go_at_call 89;(with_reducible refine (writeByte_calls w.heap.size w.heap.size (nums .u8 bs) d1 _ HO.out (by have:=HLEN.out;omega) HB.out.size).mono ?_);rintro e w1 ⟨rfl,hb1,hl1⟩;have HO1:=Aside0.mk (show Lib.IsBuilder 121 5 w.heap.size w.heap.size _ _ from .inr hb1);have HB1:=Aside0.mk (HB.out.trans (hl1.mono (Nat.le_refl _)));clear HO HB hb1 hl1)
     | (go_at_call 89;(with_reducible refine (writeByte_calls w.heap.size w.heap.size (nums .u8 bs ++ [.int .u8 d1]) d2 _ HO1.out (by have:=HLEN.out;simp only [List.length_append,List.length_cons,List.length_nil];omega) HB1.out.size).mono ?_);rintro e w2 ⟨rfl,hb2,hl2⟩;have HO2:=Aside0.mk hb2;have HB2:=Aside0.mk (HB1.out.trans (hl2.mono (Nat.le_refl _)));clear HO1 HB1 hb2 hl2))
    go_roundg gg
    case measure=>omega
    case rel=>exact ⟨i+1,by omega,by go_num,⟨.inr (by
     rw [HST.out,nums_append]
     have e:nums .u8 (hexTwo c)=[.int .u8 d1,.int .u8 d2]:=by
      unfold hexTwo hexDigits
      rw [E1.out,E2.out,D1.out,D2.out]
      rfl
     rw [e]
     have:=HO2.out
     rw [List.append_assoc] at this
     exact this)⟩,HB2⟩
   ·
    have hltz:¬ (i:Int) < (a0.size:Int):=by omega
    have hall:(bytesOf a0).take i=bytesOf a0:=List.take_of_length_le (by rw [bytesOf_length];omega)
    rw [hall,nums_bytes _ (hexL_range _)] at HO
    clear hall
    go_wp2_with (go_at_call 90;refine (builderString_calls w.heap.size w.heap.size _ _ HO.out HB.out.size).mono ?_;rintro e w1 ⟨rfl,hb1⟩)
    go_ret
    exact ⟨by rw [HR.out];rfl,HB.out.trans (hb1.mono (Nat.le_refl _))⟩
 ·
  rw [if_neg hs] at h
  exact absurd h (by simp)
end Go.Proofs.Ytelcaepenfjloaa.Print
/-! #### Pr25 -/
namespace Go.Proofs.Ytelcaepenfjloaa.Print
open Go.RowKit Go.Proofs.YtelcaepenfjloaaW.PrintWords Go.Proofs.YtelcaepenfjloaaW.PrintLast Go.Proofs.YtelcaepenfjloaaW.PrintMore
attribute [local go_sem] max2_int min2_int max_two min_two max_three min_three max_four min_four
set_option linter.unusedVariables false
set_option linter.unusedSimpArgs false
/-! ### mosaiclaw01_awake: function 25 -/
def mosaiclaw01_awake.f  : Option (Bool):=(sha_Sum.f (⟨#[97,98,99]⟩:ByteArray)).bind fun t115=>((sha_Hex.f t115).bind fun t116=>(if t116.toList=([98,97,55,56,49,54,98,102,56,102,48,49,99,102,101,97,52,49,52,49,52,48,100,101,53,100,97,101,50,50,50,51,98,48,48,51,54,49,97,51,57,54,49,55,55,97,57,99,98,52,49,48,102,102,54,49,102,50,48,48,49,53,97,100]:List UInt8) then ((sha_Sum.f (⟨#[]⟩:ByteArray)).bind fun t117=>((sha_Hex.f t117).bind fun t118=>(some (t118.toList == ([101,51,98,48,99,52,52,50,57,56,102,99,49,99,49,52,57,97,102,98,102,52,99,56,57,57,54,102,98,57,50,52,50,55,97,101,52,49,101,52,54,52,57,98,57,51,52,99,97,52,57,53,57,57,49,98,55,56,53,50,98,56,53,53]:List UInt8))))) else (some false)))
set_option maxHeartbeats 8000000 in
set_option maxRecDepth 100000 in
theorem mosaiclaw01_awake.calls  (r:Bool) (w:World) (h:mosaiclaw01_awake.f  = some r) :
  Calls Try.prog 25 #[] w fun e w'=>e=.returned (.bool r)∧Below w.heap.size w w':=by
 have HB:=Aside0.mk (Below.refl w.heap.size w)
 have H:((sha_Sum.f (⟨#[97,98,99]⟩:ByteArray)).bind fun t115=>((sha_Hex.f t115).bind fun t116=>(if t116.toList=([98,97,55,56,49,54,98,102,56,102,48,49,99,102,101,97,52,49,52,49,52,48,100,101,53,100,97,101,50,50,50,51,98,48,48,51,54,49,97,51,57,54,49,55,55,97,57,99,98,52,49,48,102,102,54,49,102,50,48,48,49,53,97,100]:List UInt8) then ((sha_Sum.f (⟨#[]⟩:ByteArray)).bind fun t117=>((sha_Hex.f t117).bind fun t118=>(some (t118.toList == ([101,51,98,48,99,52,52,50,57,56,102,99,49,99,49,52,57,97,102,98,102,52,99,56,57,57,54,102,98,57,50,52,50,55,97,101,52,49,101,52,54,52,57,98,57,51,52,99,97,52,57,53,57,57,49,98,55,56,53,50,98,56,53,53]:List UInt8))))) else (some false))))=some r:=h
 clear h
 replace H:=Option.bind_eq_some_iff.mp H
 obtain ⟨t115,A10,H⟩:=H
 replace H:((sha_Hex.f t115).bind fun t116=>(if t116.toList=([98,97,55,56,49,54,98,102,56,102,48,49,99,102,101,97,52,49,52,49,52,48,100,101,53,100,97,101,50,50,50,51,98,48,48,51,54,49,97,51,57,54,49,55,55,97,57,99,98,52,49,48,102,102,54,49,102,50,48,48,49,53,97,100]:List UInt8) then ((sha_Sum.f (⟨#[]⟩:ByteArray)).bind fun t117=>((sha_Hex.f t117).bind fun t118=>(some (t118.toList == ([101,51,98,48,99,52,52,50,57,56,102,99,49,99,49,52,57,97,102,98,102,52,99,56,57,57,54,102,98,57,50,52,50,55,97,101,52,49,101,52,54,52,57,98,57,51,52,99,97,52,57,53,57,57,49,98,55,56,53,50,98,56,53,53]:List UInt8))))) else (some false)))=some r:=H
 have A1:=Aside0.mk A10
 clear A10
 replace H:=Option.bind_eq_some_iff.mp H
 obtain ⟨t116,A20,H⟩:=H
 replace H:(if t116.toList=([98,97,55,56,49,54,98,102,56,102,48,49,99,102,101,97,52,49,52,49,52,48,100,101,53,100,97,101,50,50,50,51,98,48,48,51,54,49,97,51,57,54,49,55,55,97,57,99,98,52,49,48,102,102,54,49,102,50,48,48,49,53,97,100]:List UInt8) then ((sha_Sum.f (⟨#[]⟩:ByteArray)).bind fun t117=>((sha_Hex.f t117).bind fun t118=>(some (t118.toList == ([101,51,98,48,99,52,52,50,57,56,102,99,49,99,49,52,57,97,102,98,102,52,99,56,57,57,54,102,98,57,50,52,50,55,97,101,52,49,101,52,54,52,57,98,57,51,52,99,97,52,57,53,57,57,49,98,55,56,53,50,98,56,53,53]:List UInt8))))) else (some false))=some r:=H
 have A2:=Aside0.mk A20
 clear A20
 by_cases c3:t116.toList=([98,97,55,56,49,54,98,102,56,102,48,49,99,102,101,97,52,49,52,49,52,48,100,101,53,100,97,101,50,50,50,51,98,48,48,51,54,49,97,51,57,54,49,55,55,97,57,99,98,52,49,48,102,102,54,49,102,50,48,48,49,53,97,100]:List UInt8)
 ·
  rw [if_pos c3] at H
  have c3b0:(t116.toList == ([98,97,55,56,49,54,98,102,56,102,48,49,99,102,101,97,52,49,52,49,52,48,100,101,53,100,97,101,50,50,50,51,98,48,48,51,54,49,97,51,57,54,49,55,55,97,57,99,98,52,49,48,102,102,54,49,102,50,48,48,49,53,97,100]:List UInt8))=true:=beq_iff_eq.mpr c3
  have c3b1:(t116.toList != ([98,97,55,56,49,54,98,102,56,102,48,49,99,102,101,97,52,49,52,49,52,48,100,101,53,100,97,101,50,50,50,51,98,48,48,51,54,49,97,51,57,54,49,55,55,97,57,99,98,52,49,48,102,102,54,49,102,50,48,48,49,53,97,100]:List UInt8))=false:=bne_eq_false_iff_eq.mpr c3
  clear c3
  replace H:=Option.bind_eq_some_iff.mp H
  obtain ⟨t117,A40,H⟩:=H
  replace H:((sha_Hex.f t117).bind fun t118=>(some (t118.toList == ([101,51,98,48,99,52,52,50,57,56,102,99,49,99,49,52,57,97,102,98,102,52,99,56,57,57,54,102,98,57,50,52,50,55,97,101,52,49,101,52,54,52,57,98,57,51,52,99,97,52,57,53,57,57,49,98,55,56,53,50,98,56,53,53]:List UInt8))))=some r:=H
  have A4:=Aside0.mk A40
  clear A40
  replace H:=Option.bind_eq_some_iff.mp H
  obtain ⟨t118,A50,H⟩:=H
  replace H:(some (t118.toList == ([101,51,98,48,99,52,52,50,57,56,102,99,49,99,49,52,57,97,102,98,102,52,99,56,57,57,54,102,98,57,50,52,50,55,97,101,52,49,101,52,54,52,57,98,57,51,52,99,97,52,57,53,57,57,49,98,55,56,53,50,98,56,53,53]:List UInt8)))=some r:=H
  have A5:=Aside0.mk A50
  clear A50
  obtain rfl:=Option.some.inj H
  go_enter Try.func25,Try.ntmps25
  go_wp2_with (first|((with_reducible refine gate_callee (f:=26) rfl ?_);refine goesL_ (some 1) rfl rfl Try.func26 (by kernel_rfl) rfl #[.string (⟨#[97,98,99]⟩:ByteArray)] rfl (by (try simp only [List.map_toArray,List.map_cons,List.map_nil]);first|done|rfl|(simp only [List.length_drop,List.length_take];rfl)) ?_;(with_reducible refine (sha_Sum.calls (⟨#[97,98,99]⟩:ByteArray) t115 _ A1.out).mono ?_);rintro e w6 ⟨rfl,hb⟩;refine ⟨_,rfl,?_⟩;have n0_:=Aside0.mk (below_step (by repeat (first|(with_reducible first|exact HB.out|apply below_alloc|apply pw_below_drewN|apply below_drew1)|exact HB.out)) hb);clear HB;have HB:=n0_;clear n0_;(try clear hb);(try clear hb2);(try clear hk);(try clear hi))|((with_reducible refine gate_callee (f:=42) rfl ?_);refine goesL_ (some 2) rfl rfl Try.func42 (by kernel_rfl) rfl #[.string t115] rfl (by (try simp only [List.map_toArray,List.map_cons,List.map_nil]);first|done|rfl|(simp only [List.length_drop,List.length_take];rfl)) ?_;(with_reducible refine (sha_Hex.calls t115 t116 _ A2.out).mono ?_);rintro e w7 ⟨rfl,hb⟩;refine ⟨_,rfl,?_⟩;have n0_:=Aside0.mk (below_step (by repeat (first|(with_reducible first|exact HB.out|apply below_alloc|apply pw_below_drewN|apply below_drew1)|exact HB.out)) hb);clear HB;have HB:=n0_;clear n0_;(try clear hb);(try clear hb2);(try clear hk);(try clear hi))|(go_at_call 26;(with_reducible refine (sha_Sum.calls (⟨#[]⟩:ByteArray) t117 _ A4.out).mono ?_);rintro e w8 ⟨rfl,hb⟩;have n0_:=Aside0.mk (below_step (by repeat (first|(with_reducible first|exact HB.out|apply below_alloc|apply pw_below_drewN|apply below_drew1)|exact HB.out)) hb);clear HB;have HB:=n0_;clear n0_;(try clear hb);(try clear hb2);(try clear hk);(try clear hi))|(go_at_call 42;(with_reducible refine (sha_Hex.calls t117 t118 _ A5.out).mono ?_);rintro e w9 ⟨rfl,hb⟩;have n0_:=Aside0.mk (below_step (by repeat (first|(with_reducible first|exact HB.out|apply below_alloc|apply pw_below_drewN|apply below_drew1)|exact HB.out)) hb);clear HB;have HB:=n0_;clear n0_;(try clear hb);(try clear hb2);(try clear hk);(try clear hi)))
  go_ret
  exact ⟨by first|rfl|(simp [errW_none,errW_some] <;> rfl)|(simp [*,errW_none,errW_some] <;> rfl),by repeat (first|(with_reducible first|exact HB.out|apply below_alloc|apply pw_below_drewN|apply below_drew1)|exact HB.out)⟩
 ·
  rw [if_neg c3] at H
  have c3b0:(t116.toList == ([98,97,55,56,49,54,98,102,56,102,48,49,99,102,101,97,52,49,52,49,52,48,100,101,53,100,97,101,50,50,50,51,98,48,48,51,54,49,97,51,57,54,49,55,55,97,57,99,98,52,49,48,102,102,54,49,102,50,48,48,49,53,97,100]:List UInt8))=false:=beq_eq_false_iff_ne.mpr c3
  have c3b1:(t116.toList != ([98,97,55,56,49,54,98,102,56,102,48,49,99,102,101,97,52,49,52,49,52,48,100,101,53,100,97,101,50,50,50,51,98,48,48,51,54,49,97,51,57,54,49,55,55,97,57,99,98,52,49,48,102,102,54,49,102,50,48,48,49,53,97,100]:List UInt8))=true:=bne_iff_ne.mpr c3
  obtain rfl:=Option.some.inj H
  go_enter Try.func25,Try.ntmps25
  go_wp2_with (first|((with_reducible refine gate_callee (f:=26) rfl ?_);refine goesL_ (some 1) rfl rfl Try.func26 (by kernel_rfl) rfl #[.string (⟨#[97,98,99]⟩:ByteArray)] rfl (by (try simp only [List.map_toArray,List.map_cons,List.map_nil]);first|done|rfl|(simp only [List.length_drop,List.length_take];rfl)) ?_;(with_reducible refine (sha_Sum.calls (⟨#[97,98,99]⟩:ByteArray) t115 _ A1.out).mono ?_);rintro e w10 ⟨rfl,hb⟩;refine ⟨_,rfl,?_⟩;have n0_:=Aside0.mk (below_step (by repeat (first|(with_reducible first|exact HB.out|apply below_alloc|apply pw_below_drewN|apply below_drew1)|exact HB.out)) hb);clear HB;have HB:=n0_;clear n0_;(try clear hb);(try clear hb2);(try clear hk);(try clear hi))|((with_reducible refine gate_callee (f:=42) rfl ?_);refine goesL_ (some 2) rfl rfl Try.func42 (by kernel_rfl) rfl #[.string t115] rfl (by (try simp only [List.map_toArray,List.map_cons,List.map_nil]);first|done|rfl|(simp only [List.length_drop,List.length_take];rfl)) ?_;(with_reducible refine (sha_Hex.calls t115 t116 _ A2.out).mono ?_);rintro e w11 ⟨rfl,hb⟩;refine ⟨_,rfl,?_⟩;have n0_:=Aside0.mk (below_step (by repeat (first|(with_reducible first|exact HB.out|apply below_alloc|apply pw_below_drewN|apply below_drew1)|exact HB.out)) hb);clear HB;have HB:=n0_;clear n0_;(try clear hb);(try clear hb2);(try clear hk);(try clear hi)))
  go_ret
  exact ⟨by first|rfl|(simp [errW_none,errW_some] <;> rfl)|(simp [*,errW_none,errW_some] <;> rfl),by repeat (first|(with_reducible first|exact HB.out|apply below_alloc|apply pw_below_drewN|apply below_drew1)|exact HB.out)⟩
end Go.Proofs.Ytelcaepenfjloaa.Print
/-! #### Pr29 -/
namespace Go.Proofs.Ytelcaepenfjloaa.Print
open Go.RowKit Go.Proofs.YtelcaepenfjloaaW.PrintWords Go.Proofs.YtelcaepenfjloaaW.PrintLast Go.Proofs.YtelcaepenfjloaaW.PrintMore
attribute [local go_sem] max2_int min2_int max_two min_two max_three min_three max_four min_four
set_option linter.unusedVariables false
set_option linter.unusedSimpArgs false
/-! ### mosaicref01_Pad: function 29 -/
mutual
def mosaicref01_Pad.j0:Nat→Int→Bool→Option (ByteArray)
 | 0,_,_=>none
 | k+1,x0,x10=>if x10=true then (some (⟨#[]⟩:ByteArray)) else (mosaicref01_Pad.l0 k x0 (([128]:List Int)))
def mosaicref01_Pad.l0:Nat→Int→List Int→Option (ByteArray)
 | 0,_,_=>none
 | k+1,x0,x3=>if (Int.tmod (wrap64 ((wrap64 (x0+(x3.length:Int)))+8)) 64)=0 then ((some (([0,0,0,0,(wrap64 (Int.tdiv (wrap64 (8 * x0)) 16777216)) % 256,(Int.tmod (wrap64 (Int.tdiv (wrap64 (8 * x0)) 65536)) 256) % 256,(Int.tmod (wrap64 (Int.tdiv (wrap64 (8 * x0)) 256)) 256) % 256,(Int.tmod (wrap64 (8 * x0)) 256) % 256]:List Int):List Int)).bind fun y122=>(if x3.length+y122.length < 140737488355328 then (some (strOfNums (x3 ++ y122))) else (none))) else (if x3.length < 140737488355328 then (mosaicref01_Pad.l0 k x0 (x3 ++ [0])) else (none))
end
def mosaicref01_Pad.f (k:Nat) (a0:Int):Option (ByteArray):=if a0 < 0 then (mosaicref01_Pad.j0 k a0 true) else (mosaicref01_Pad.j0 k a0 (decide (a0 > 65536)))
theorem mosaicref01_Pad.mono_l:∀ k,(∀ y0 y1,LeO (mosaicref01_Pad.j0 k y0 y1) (mosaicref01_Pad.j0 (k+1) y0 y1))∧(∀ y0 y1,LeO (mosaicref01_Pad.l0 k y0 y1) (mosaicref01_Pad.l0 (k+1) y0 y1))
 | 0=>⟨fun _ _ r h=>by simp [mosaicref01_Pad.j0] at h,fun _ _ r h=>by simp [mosaicref01_Pad.l0] at h⟩
 | k+1=>by
  obtain ⟨ih0,ih1⟩:=mosaicref01_Pad.mono_l k
  refine ⟨?_,?_⟩
  ·
   intro y0 y1
   unfold mosaicref01_Pad.j0
   repeat' first
   | (with_reducible exact ih0 _ _)
   | (with_reducible exact ih1 _ _)
   | (with_reducible exact LeO.refl _)
   | (with_reducible exact LeO.none _)
   | (with_reducible refine LeO.ite ?_ ?_)
   | (with_reducible refine LeO.bind ?_ (fun _=>?_))
   | exact ih0 _ _
   | exact ih1 _ _
   | exact LeO.none _
   | refine LeO.ite ?_ ?_
   | refine LeO.bind ?_ (fun _=>?_)
  ·
   intro y0 y1
   unfold mosaicref01_Pad.l0
   repeat' first
   | (with_reducible exact ih0 _ _)
   | (with_reducible exact ih1 _ _)
   | (with_reducible exact LeO.refl _)
   | (with_reducible exact LeO.none _)
   | (with_reducible refine LeO.ite ?_ ?_)
   | (with_reducible refine LeO.bind ?_ (fun _=>?_))
   | exact ih0 _ _
   | exact ih1 _ _
   | exact LeO.none _
   | refine LeO.ite ?_ ?_
   | refine LeO.bind ?_ (fun _=>?_)
theorem mosaicref01_Pad.mono:∀ a0 k,LeO (mosaicref01_Pad.f k a0) (mosaicref01_Pad.f (k+1) a0):=by
 intro a0 k
 obtain ⟨ih0,ih1⟩:=mosaicref01_Pad.mono_l k
 unfold mosaicref01_Pad.f
 repeat' first
   | (with_reducible exact ih0 _ _)
   | (with_reducible exact ih1 _ _)
   | (with_reducible exact LeO.refl _)
   | (with_reducible exact LeO.none _)
   | (with_reducible refine LeO.ite ?_ ?_)
   | (with_reducible refine LeO.bind ?_ (fun _=>?_))
   | exact ih0 _ _
   | exact ih1 _ _
   | exact LeO.none _
   | refine LeO.ite ?_ ?_
   | refine LeO.bind ?_ (fun _=>?_)
set_option maxHeartbeats 8000000 in
set_option maxRecDepth 100000 in
theorem mosaicref01_Pad.calls (k:Nat) (a0:Int) (r:ByteArray) (w:World) (h:mosaicref01_Pad.f k a0=some r) :
  Calls Try.prog 29 #[.int .i64 a0] w fun e w'=>e=.returned (.string r)∧Below w.heap.size w w':=by
 have HB:=Aside0.mk (Below.refl w.heap.size w)
 have H:(if a0 < 0 then (mosaicref01_Pad.j0 k a0 true) else (mosaicref01_Pad.j0 k a0 (decide (a0 > 65536))))=some r:=h
 clear h
 have HC2:=Aside0.mk H
 clear H
 go_enter Try.func29,Try.ntmps29
 go_upto_region 1 with (fail)
 go_cut [10] (fun v10 wc=>∃ (kq:Nat) (x10_1:Bool),v10=.bool x10_1∧Aside0 (mosaicref01_Pad.j0 kq a0 x10_1=some r)∧Aside0 (kq≤k)∧Aside0 (Below w.heap.size w wc))
 case first =>
  have H:=HC2.out
  clear HC2
  by_cases c3:a0 < 0
  ·
   rw [if_pos c3] at H
   have c3b0:decide (a0 < 0)=true:=decide_eq_true c3
   clear c3
   (first|rw [c3b0]|(simp only [i64_w,i32_w];rw [c3b0])|skip)
   have H':=Aside0.mk H
   clear H
   go_wp2
   go_meet
   case rel=>exact ⟨_,(true),(by first|rfl|(simp;done)|(simp [*];done)),H',⟨by first|omega|exact Nat.le_refl _⟩,⟨by repeat (first|(with_reducible first|exact HB.out|apply below_alloc|apply pw_below_drewN|apply below_drew1)|exact HB.out)⟩⟩
  ·
   rw [if_neg c3] at H
   have c3b0:decide (a0 < 0)=false:=decide_eq_false c3
   clear c3
   (first|rw [c3b0]|(simp only [i64_w,i32_w];rw [c3b0])|skip)
   have H':=Aside0.mk H
   clear H
   go_wp2
   go_meet
   case rel=>exact ⟨_,(decide (a0 > 65536)),(by first|rfl|(simp;done)|(simp [*];done)),H',⟨by first|omega|exact Nat.le_refl _⟩,⟨by repeat (first|(with_reducible first|exact HB.out|apply below_alloc|apply pw_below_drewN|apply below_drew1)|exact HB.out)⟩⟩
 case rest =>
  clear HC2
  try clear c2
  try clear p2
  try clear c3
  try clear c3b0
  obtain ⟨kq,x10_1,rfl,HA,HJ1,HB⟩:=hcut
  cases kq with
  | zero=>exact absurd HA.out (by simp [mosaicref01_Pad.j0])
  | succ kj1 =>
   have H:=HA.out
   clear HA
   simp only [mosaicref01_Pad.j0] at H
   by_cases c4:x10_1=true
   ·
    subst c4
    have H1:(some (⟨#[]⟩:ByteArray))=some r:=by rw [if_pos rfl] at H;exact H
    clear H
    have H:=H1
    clear H1
    obtain rfl:=Option.some.inj H
    go_wp2
    go_ret
    exact ⟨by first|rfl|(simp [errW_none,errW_some] <;> rfl)|(simp [*,errW_none,errW_some] <;> rfl),by repeat (first|(with_reducible first|exact HB.out|apply below_alloc|apply pw_below_drewN|apply below_drew1)|exact HB.out)⟩
   ·
    replace c4:=Bool.eq_false_iff.mpr c4
    subst c4
    have H1:(mosaicref01_Pad.l0 kj1 a0 (([128]:List Int)))=some r:=by rw [if_neg (show ¬ (false=true) by decide)] at H;exact H
    clear H
    have H:=H1
    clear H1
    obtain ⟨y119,hy119⟩:∃ y_:List Int,y_=(([128]:List Int)):=⟨_,rfl⟩
    replace H:(mosaicref01_Pad.l0 kj1 a0 y119)=some r:=by first|(rw [hy119];with_reducible exact H)|(have H2_:=(Option.bind_some _ _).symm.trans H;rw [hy119];with_reducible exact H2_)|(have H2_:=(Option.bind_some _ _).symm.trans H;with_reducible exact H2_)|with_reducible exact H|(rw [hy119];exact H)|exact H
    have Ny119:=Aside0.mk hy119
    clear hy119
    have H':=Aside0.mk H
    clear H
    go_wp2_with (first|((with_reducible refine gate_dst (N:=11) rfl ?_);refine Kd.R_lit (Kd.int .u8) _ 5 ?hg (N:=11) ?hd (xs:=([128]:List Int)) (inner:=[.int .u8 128]) (ok:=fun _=>True) (okp:=fun _=>True) ?hr ?hp (fun _ hk=>hk) trivial (Below.refl _ _) (Nat.le_refl _) (by simp) ?_;(case hd=>rfl);(case hg=>rfl);(case hr=>first|(go_simp;done)|(go_simp;rfl));(case hp=>exact (Reps.one (show Kd.M (Kd.int .u8) _ _ _ 128 [.int .u8 128] from rfl) (Reps.none _ _)));intro v120 w5 ho6 hb hg_ hnew_;clear hg_ hnew_;(first|rw [← Ny119.out] at ho6|(simp only [Int.reduceToNat] at ho6;rw [← Ny119.out] at ho6));have n0_:=Aside0.mk (Kd.R_lower ho6 (below_size (by repeat (first|(with_reducible first|exact HB.out|apply below_alloc|apply pw_below_drewN|apply below_drew1)|exact HB.out))));have n1_:=Aside0.mk (below_step (by repeat (first|(with_reducible first|exact HB.out|apply below_alloc|apply pw_below_drewN|apply below_drew1)|exact HB.out)) hb);clear HB;have HO121:=n0_;have HB:=n1_;clear n0_ n1_;clear hb ho6))
    go_loopg [3] kj1 (fun kq v3 w'=>∃ (x3_2:List Int),Aside0 (mosaicref01_Pad.l0 kq a0 x3_2=some r)∧Aside0 (kq≤kj1)∧Aside0 (Kd.R (Kd.int .u8) 5 w' w.heap.size (fun _=>True) v3 x3_2)∧Aside0 (Below w.heap.size w w'))
    case atStart=>exact ⟨(y119),H',⟨Nat.le_refl _⟩,⟨by (with_reducible repeat (first|apply Kd.R_alloc|apply Kd.R_drewN|apply Kd.R_drew));exact HO121.out⟩,⟨by repeat (first|(with_reducible first|exact HB.out|apply below_alloc|apply pw_below_drewN|apply below_drew1)|exact HB.out)⟩⟩
    case round =>
     clear H'
     try clear c2
     try clear p2
     try clear c3
     try clear c3b0
     try clear c4
     try clear p2
     obtain ⟨x3_2,HA,HK2,HO_3,HB⟩:=hrel
     cases gk with
     | zero=>exact absurd HA.out (by simp [mosaicref01_Pad.l0])
     | succ k2 =>
      have H:=HA.out
      clear HA
      simp only [mosaicref01_Pad.l0] at H
      by_cases c7:(Int.tmod (wrap64 ((wrap64 (a0+(x3_2.length:Int)))+8)) 64)=0
      ·
       rw [if_pos c7] at H
       have c7b0:((Int.tmod (wrap64 ((wrap64 (a0+(x3_2.length:Int)))+8)) 64) == 0)=true:=beq_iff_eq.mpr c7
       have c7b1:((Int.tmod (wrap64 ((wrap64 (a0+(x3_2.length:Int)))+8)) 64) != 0)=false:=bne_eq_false_iff_eq.mpr c7
       clear c7
       obtain ⟨y122,hy122⟩:∃ y_:List Int,y_=(([0,0,0,0,(wrap64 (Int.tdiv (wrap64 (8 * a0)) 16777216)) % 256,(Int.tmod (wrap64 (Int.tdiv (wrap64 (8 * a0)) 65536)) 256) % 256,(Int.tmod (wrap64 (Int.tdiv (wrap64 (8 * a0)) 256)) 256) % 256,(Int.tmod (wrap64 (8 * a0)) 256) % 256]:List Int)):=⟨_,rfl⟩
       replace H:(if x3_2.length+y122.length < 140737488355328 then (some (strOfNums (x3_2 ++ y122))) else (none))=some r:=by first|(rw [hy122];with_reducible exact H)|(have H2_:=(Option.bind_some _ _).symm.trans H;rw [hy122];with_reducible exact H2_)|(have H2_:=(Option.bind_some _ _).symm.trans H;with_reducible exact H2_)|with_reducible exact H|(rw [hy122];exact H)|exact H
       have Ny122:=Aside0.mk hy122
       clear hy122
       by_cases c8:x3_2.length+y122.length < 140737488355328
       ·
        rw [if_pos c8] at H
        have LMc8:=Aside0.mk c8
        clear c8
        obtain ⟨y125,hy125⟩:∃ y_:List Int,y_=(x3_2 ++ y122):=⟨_,rfl⟩
        replace H:(some (strOfNums y125))=some r:=by first|(rw [hy125];with_reducible exact H)|(have H2_:=(Option.bind_some _ _).symm.trans H;rw [hy125];with_reducible exact H2_)|(have H2_:=(Option.bind_some _ _).symm.trans H;with_reducible exact H2_)|with_reducible exact H|(rw [hy125];exact H)|exact H
        have Ny125:=Aside0.mk hy125
        clear hy125
        obtain rfl:=Option.some.inj H
        obtain ⟨Ao9,co9,eo9⟩:=Kd.R_slice HO_3.out
        subst eo9
        go_wp2_with (first|((with_reducible refine gate_dst (N:=39) rfl ?_);refine Kd.R_lit (Kd.int .u8) _ 5 ?hg (N:=39) ?hd (xs:=([0,0,0,0,(wrap64 (Int.tdiv (wrap64 (8 * a0)) 16777216)) % 256,(Int.tmod (wrap64 (Int.tdiv (wrap64 (8 * a0)) 65536)) 256) % 256,(Int.tmod (wrap64 (Int.tdiv (wrap64 (8 * a0)) 256)) 256) % 256,(Int.tmod (wrap64 (8 * a0)) 256) % 256]:List Int)) (inner:=[.int .u8 0,.int .u8 0,.int .u8 0,.int .u8 0,.int .u8 ((wrap64 (Int.tdiv (wrap64 (8 * a0)) 16777216)) % 256),.int .u8 ((Int.tmod (wrap64 (Int.tdiv (wrap64 (8 * a0)) 65536)) 256) % 256),.int .u8 ((Int.tmod (wrap64 (Int.tdiv (wrap64 (8 * a0)) 256)) 256) % 256),.int .u8 ((Int.tmod (wrap64 (8 * a0)) 256) % 256)]) (ok:=fun _=>True) (okp:=fun _=>True) ?hr ?hp (fun _ hk=>hk) trivial (Below.refl _ _) (Nat.le_refl _) (by simp) ?_;(case hd=>rfl);(case hg=>rfl);(case hr=>first|(go_simp;done)|(go_simp;rfl));(case hp=>exact (Reps.one (show Kd.M (Kd.int .u8) _ _ _ 0 [.int .u8 0] from rfl) (Reps.one (show Kd.M (Kd.int .u8) _ _ _ 0 [.int .u8 0] from rfl) (Reps.one (show Kd.M (Kd.int .u8) _ _ _ 0 [.int .u8 0] from rfl) (Reps.one (show Kd.M (Kd.int .u8) _ _ _ 0 [.int .u8 0] from rfl) (Reps.one (show Kd.M (Kd.int .u8) _ _ _ ((wrap64 (Int.tdiv (wrap64 (8 * a0)) 16777216)) % 256) [.int .u8 ((wrap64 (Int.tdiv (wrap64 (8 * a0)) 16777216)) % 256)] from rfl) (Reps.one (show Kd.M (Kd.int .u8) _ _ _ ((Int.tmod (wrap64 (Int.tdiv (wrap64 (8 * a0)) 65536)) 256) % 256) [.int .u8 ((Int.tmod (wrap64 (Int.tdiv (wrap64 (8 * a0)) 65536)) 256) % 256)] from rfl) (Reps.one (show Kd.M (Kd.int .u8) _ _ _ ((Int.tmod (wrap64 (Int.tdiv (wrap64 (8 * a0)) 256)) 256) % 256) [.int .u8 ((Int.tmod (wrap64 (Int.tdiv (wrap64 (8 * a0)) 256)) 256) % 256)] from rfl) (Reps.one (show Kd.M (Kd.int .u8) _ _ _ ((Int.tmod (wrap64 (8 * a0)) 256) % 256) [.int .u8 ((Int.tmod (wrap64 (8 * a0)) 256) % 256)] from rfl) (Reps.none _ _))))))))));intro v123 w10 ho11 hb hg_ hnew_;clear hg_ hnew_;(first|rw [← Ny122.out] at ho11|(simp only [Int.reduceToNat] at ho11;rw [← Ny122.out] at ho11));have n0_:=Aside0.mk (Kd.R_elder' (by (with_reducible repeat (first|apply Kd.R_alloc|apply Kd.R_drewN|apply Kd.R_drew));exact HO_3.out) (Kd.R_base ho11) hb);have n1_:=Aside0.mk (Kd.R_lower (Kd.R_new' ho11 (Kd.R_lt (by (with_reducible repeat (first|apply Kd.R_alloc|apply Kd.R_drewN|apply Kd.R_drew));exact HO_3.out))) (below_size (by repeat (first|(with_reducible first|exact HB.out|apply below_alloc|apply pw_below_drewN|apply below_drew1)|exact HB.out))));have n2_:=Aside0.mk (below_step (by repeat (first|(with_reducible first|exact HB.out|apply below_alloc|apply pw_below_drewN|apply below_drew1)|exact HB.out)) hb);clear HO_3;clear HB;have HO_3:=n0_;have HO124:=n1_;have HB:=n2_;clear n0_ n1_ n2_;clear hb ho11;obtain ⟨Ao13,co13,eo13⟩:=Kd.R_slice HO124.out;subst eo13)|((with_reducible refine gate_builtin (b:=.append) (xs:=#[.tmp 24,.tmp 39]) rfl ?_);at_builtin;refine Kd.R_append_rows (Kd.int .u8) (w0:=w) w.heap.size rfl (.tmp 24) (.tmp 39) 47 5 (.int .u8 0) 1 rfl Try.underlying47 info5 rfl (by decide) (by omega) (.slice Ao9 x3_2.length co9) x3_2 y122 _ _ _ (fun k_=>some k_≠(.slice Ao13 y122.length co13:Value).ownBlock) (fun _=>False) rfl rfl ?aO ?aR (fun _ _ h=>h) (fun _ h=>h.elim) ?aF ?aB ?aS ?aL ?_;(case aR=>repeat (first|exact (Kd.R_reads' HO124.out).2.2|(with_reducible refine Kd.C_alloc ?_ _)|(with_reducible refine Kd.C_drewN ?_ _)|(with_reducible refine Kd.C_drew ?_)));(case aB=>exact (by repeat (first|(with_reducible first|exact HB.out|apply below_alloc|apply pw_below_drewN|apply below_drew1)|exact HB.out)));(case aF=>exact (fun k_ hk=>Kd.fresh' (Kd.R_lt (by (with_reducible repeat (first|apply Kd.R_alloc|apply Kd.R_drewN|apply Kd.R_drew));exact HO124.out)) k_ hk));(case aO=>exact (by (with_reducible repeat (first|apply Kd.R_alloc|apply Kd.R_drewN|apply Kd.R_drew));exact Kd.R_mono HO_3.out (fun _ hk=>hk.2)));(case aS=>exact (below_size (by repeat (first|(with_reducible first|exact HB.out|apply below_alloc|apply pw_below_drewN|apply below_drew1)|exact HB.out))));(case aL=>have:=LMc8.out;omega);intro v126 w12 ho hb hg hat;rw [← Ny125.out] at ho;have n0_:=Aside0.mk (Kd.R_after (ok:=(fun _=>True)) (by (with_reducible repeat (first|apply Kd.R_alloc|apply Kd.R_drewN|apply Kd.R_drew));exact HO124.out) hg hat);have n1_:=Aside0.mk (hb);have n2_:=Aside0.mk (ho);clear HO124;clear HB;clear HO_3;have HO124:=n0_;have HB:=n1_;have HO127:=n2_;clear n0_ n1_ n2_;clear ho hb hg hat;have hcv14:=own_string (P:=Try.prog) Try.underlying47 Try.underlying5 Try.underlying9 (Kd.own_of_R HO127.out)))
        go_ret
        exact ⟨by first|rfl|(simp [errW_none,errW_some] <;> rfl)|(simp [*,errW_none,errW_some] <;> rfl),by repeat (first|(with_reducible first|exact HB.out|apply below_alloc|apply pw_below_drewN|apply below_drew1)|exact HB.out)⟩
       ·
        rw [if_neg c8] at H
        exact absurd H (by simp)
      ·
       rw [if_neg c7] at H
       have c7b0:((Int.tmod (wrap64 ((wrap64 (a0+(x3_2.length:Int)))+8)) 64) == 0)=false:=beq_eq_false_iff_ne.mpr c7
       have c7b1:((Int.tmod (wrap64 ((wrap64 (a0+(x3_2.length:Int)))+8)) 64) != 0)=true:=bne_iff_ne.mpr c7
       by_cases c15:x3_2.length < 140737488355328
       ·
        rw [if_pos c15] at H
        have LMc15:=Aside0.mk c15
        clear c15
        obtain ⟨y128,hy128⟩:∃ y_:List Int,y_=(x3_2 ++ [0]):=⟨_,rfl⟩
        replace H:(mosaicref01_Pad.l0 k2 a0 y128)=some r:=by first|(rw [hy128];with_reducible exact H)|(have H2_:=(Option.bind_some _ _).symm.trans H;rw [hy128];with_reducible exact H2_)|(have H2_:=(Option.bind_some _ _).symm.trans H;with_reducible exact H2_)|with_reducible exact H|(rw [hy128];exact H)|exact H
        have Ny128:=Aside0.mk hy128
        clear hy128
        have H':=Aside0.mk H
        clear H
        obtain ⟨Ao16,co16,eo16⟩:=Kd.R_slice HO_3.out
        subst eo16
        go_wp2_with (first|((with_reducible refine gate_builtin (b:=.append) (xs:=#[.tmp 19,.tmp 20]) rfl ?_);at_builtin;refine Kd.R_append (Kd.int .u8) (w0:=w) w.heap.size rfl (.tmp 19) (.tmp 20) 47 5 (.int .u8 0) 1 rfl Try.underlying47 info5 rfl (by decide) (by omega) (.slice Ao16 x3_2.length co16) x3_2 0 [.int .u8 0] (fun _=>True) (fun _=>False) rfl rfl ?aP (fun _ hk=>hk.elim) ?aF ?aO ?aB ?aS ?aL ?_;(case aP=>exact rfl);(case aB=>exact (by repeat (first|(with_reducible first|exact HB.out|apply below_alloc|apply pw_below_drewN|apply below_drew1)|exact HB.out)));(case aF=>exact (fun _ _=>trivial));(case aO=>exact (by (with_reducible repeat (first|apply Kd.R_alloc|apply Kd.R_drewN|apply Kd.R_drew));exact HO_3.out));(case aS=>exact (below_size (by repeat (first|(with_reducible first|exact HB.out|apply below_alloc|apply pw_below_drewN|apply below_drew1)|exact HB.out))));(case aL=>have:=LMc15.out;omega);intro v129 w17 ho hb hg hat;rw [← Ny128.out] at ho;have n0_:=Aside0.mk (hb);have n1_:=Aside0.mk (ho);clear HB;clear HO_3;have HB:=n0_;have HO130:=n1_;clear n0_ n1_;clear ho hb hg hat))
        go_roundg k2
        case measure=>have:=HJ1.out;have:=HK2.out;omega
        case rel=>exact ⟨(y128),H',⟨by have:=HJ1.out;have:=HK2.out;omega⟩,⟨by (with_reducible repeat (first|apply Kd.R_alloc|apply Kd.R_drewN|apply Kd.R_drew));exact HO130.out⟩,⟨by repeat (first|(with_reducible first|exact HB.out|apply below_alloc|apply pw_below_drewN|apply below_drew1)|exact HB.out)⟩⟩
       ·
        rw [if_neg c15] at H
        exact absurd H (by simp)
end Go.Proofs.Ytelcaepenfjloaa.Print
/-! #### Pr86 -/
namespace Go.Proofs.Ytelcaepenfjloaa.Print
open Go.RowKit Go.Proofs.YtelcaepenfjloaaW.PrintWords Go.Proofs.YtelcaepenfjloaaW.PrintLast Go.Proofs.YtelcaepenfjloaaW.PrintMore
attribute [local go_sem] max2_int min2_int max_two min_two max_three min_three max_four min_four
set_option linter.unusedVariables false
set_option linter.unusedSimpArgs false
/-! ### mosaicref01_rotr: function 86 -/
def mosaicref01_rotr.f (a0:Int) (a1:Int):Option (Int):=if 0≤a1 then (if 0≤(IntKind.u64.wrap (32 - a1)) then (some (Go.bits .or .u32 (shr .u32 a0 a1) (shl .u32 a0 (IntKind.u64.wrap (32 - a1))))) else (none)) else (none)
set_option maxHeartbeats 8000000 in
set_option maxRecDepth 100000 in
theorem mosaicref01_rotr.calls (a0:Int) (a1:Int) (r:Int) (w:World) (h:mosaicref01_rotr.f a0 a1=some r) :
  Calls Try.prog 86 #[.int .u32 a0,.int .u64 a1] w fun e w'=>e=.returned (.int .u32 r)∧Drawn0 w w':=by
 have H:(if 0≤a1 then (if 0≤(IntKind.u64.wrap (32 - a1)) then (some (Go.bits .or .u32 (shr .u32 a0 a1) (shl .u32 a0 (IntKind.u64.wrap (32 - a1))))) else (none)) else (none))=some r:=h
 clear h
 by_cases c3:0≤a1
 ·
  rw [if_pos c3] at H
  have c3b0:=eq_true c3
  have c3b1:decide (0≤a1)=true:=decide_eq_true c3
  clear c3
  obtain ⟨ji4,hji4⟩:∃ j_:Int,(shr .u32 a0 a1)=j_:=⟨_,rfl⟩
  replace H:(if 0≤(IntKind.u64.wrap (32 - a1)) then (some (Go.bits .or .u32 (ji4) (shl .u32 a0 (IntKind.u64.wrap (32 - a1))))) else (none))=some r:=by first|(rw [hji4] at H;exact H)|(simp only [hji4] at H ⊢;exact H)
  have hji4_:(a0 / 2 ^ min a1.toNat 32)=ji4:=hji4
  have hji4z:a1≤32→(a0 / 2 ^ a1.toNat)=ji4:=shr_small hji4
  obtain ⟨ji5,hji5⟩:∃ j_:Int,(IntKind.u64.wrap (32 - a1))=j_:=⟨_,rfl⟩
  replace H:(if 0≤(ji5) then (some (Go.bits .or .u32 (ji4) (shl .u32 a0 (ji5)))) else (none))=some r:=by first|(rw [hji5] at H;exact H)|(simp only [hji5] at H ⊢;exact H)
  by_cases c6:0≤(ji5)
  ·
   rw [if_pos c6] at H
   have c6b0:=eq_true c6
   have c6b1:decide (0≤(ji5))=true:=decide_eq_true c6
   clear c6
   obtain ⟨ji7,hji7⟩:∃ j_:Int,(shl .u32 a0 (ji5))=j_:=⟨_,rfl⟩
   replace H:(some (Go.bits .or .u32 (ji4) (ji7)))=some r:=by first|(rw [hji7] at H;exact H)|(simp only [hji7] at H ⊢;exact H)
   have hji7_:(IntKind.u32.wrap (a0 * 2 ^ min (ji5).toNat 32))=ji7:=hji7
   have hji7z:(ji5)≤32→(IntKind.u32.wrap (a0 * 2 ^ (ji5).toNat))=ji7:=shl_small hji7
   obtain rfl:=Option.some.inj H
   go_enter Try.func86,Try.ntmps86
   go_wp2
   go_ret
   exact ⟨by first|rfl|(simp;done)|(simp only [← hji4,← hji5,← hji7] <;> (first|rfl|simp))|(simp [*];done),by repeat (first|exact Drawn0.refl _|apply Drawn0.step)⟩
  ·
   rw [if_neg c6] at H
   exact absurd H (by simp)
 ·
  rw [if_neg c3] at H
  exact absurd H (by simp)
end Go.Proofs.Ytelcaepenfjloaa.Print
/-! #### Pr84 -/
namespace Go.Proofs.Ytelcaepenfjloaa.Print
open Go.RowKit Go.Proofs.YtelcaepenfjloaaW.PrintWords Go.Proofs.YtelcaepenfjloaaW.PrintLast Go.Proofs.YtelcaepenfjloaaW.PrintMore
attribute [local go_sem] max2_int min2_int max_two min_two max_three min_three max_four min_four
set_option linter.unusedVariables false
set_option linter.unusedSimpArgs false
/-! ### mosaicref01_Words: function 84 -/
mutual
def mosaicref01_Words.l0:Nat→ByteArray→List Int→Int→Option (List Int)
 | 0,_,_,_=>none
 | k+1,x0,x3,x4=>if x4 < 16 then (if 0≤(wrap64 (4 * x4)) then (if (wrap64 (4 * x4)) < (x0.size:Int) then (if 0≤(wrap64 ((wrap64 (4 * x4))+1)) then (if (wrap64 ((wrap64 (4 * x4))+1)) < (x0.size:Int) then (if 0≤(wrap64 ((wrap64 (4 * x4))+2)) then (if (wrap64 ((wrap64 (4 * x4))+2)) < (x0.size:Int) then (if 0≤(wrap64 ((wrap64 (4 * x4))+3)) then (if (wrap64 ((wrap64 (4 * x4))+3)) < (x0.size:Int) then (if x3.length < 35184372088832 then (mosaicref01_Words.l0 k x0 (x3 ++ [(((((((((bt x0 (wrap64 (4 * x4))) % 4294967296) * 16777216) % 4294967296)+((((bt x0 (wrap64 ((wrap64 (4 * x4))+1))) % 4294967296) * 65536) % 4294967296)) % 4294967296)+((((bt x0 (wrap64 ((wrap64 (4 * x4))+2))) % 4294967296) * 256) % 4294967296)) % 4294967296)+((bt x0 (wrap64 ((wrap64 (4 * x4))+3))) % 4294967296)) % 4294967296]) (wrap64 (x4+1))) else (none)) else (none)) else (none)) else (none)) else (none)) else (none)) else (none)) else (none)) else (none)) else (mosaicref01_Words.l1 k x3 16)
def mosaicref01_Words.l1:Nat→List Int→Int→Option (List Int)
 | 0,_,_=>none
 | k+1,x3,x5=>if x5 < 64 then (if 0≤(wrap64 (x5 - 15)) then (if (wrap64 (x5 - 15)) < (x3.length:Int) then (if 0≤(wrap64 (x5 - 2)) then (if (wrap64 (x5 - 2)) < (x3.length:Int) then ((mosaicref01_rotr.f (rd x3 (wrap64 (x5 - 15))) 7).bind fun t136=>((mosaicref01_rotr.f (rd x3 (wrap64 (x5 - 15))) 18).bind fun t137=>((mosaicref01_rotr.f (rd x3 (wrap64 (x5 - 2))) 17).bind fun t138=>((mosaicref01_rotr.f (rd x3 (wrap64 (x5 - 2))) 19).bind fun t139=>(if 0≤(wrap64 (x5 - 7)) then (if (wrap64 (x5 - 7)) < (x3.length:Int) then (if 0≤(wrap64 (x5 - 16)) then (if (wrap64 (x5 - 16)) < (x3.length:Int) then (if x3.length < 35184372088832 then (mosaicref01_Words.l1 k (x3 ++ [((((((Go.bits .xor .u32 (Go.bits .xor .u32 t138 t139) ((rd x3 (wrap64 (x5 - 2))) / 1024))+(rd x3 (wrap64 (x5 - 7)))) % 4294967296)+(Go.bits .xor .u32 (Go.bits .xor .u32 t136 t137) ((rd x3 (wrap64 (x5 - 15))) / 8))) % 4294967296)+(rd x3 (wrap64 (x5 - 16)))) % 4294967296]) (wrap64 (x5+1))) else (none)) else (none)) else (none)) else (none)) else (none)))))) else (none)) else (none)) else (none)) else (none)) else (some x3)
end
def mosaicref01_Words.f (k:Nat) (a0:ByteArray):Option (List Int):=mosaicref01_Words.l0 k a0 ([]:List Int) 0
theorem mosaicref01_Words.mono_l:∀ k,(∀ y0 y1 y2,LeO (mosaicref01_Words.l0 k y0 y1 y2) (mosaicref01_Words.l0 (k+1) y0 y1 y2))∧(∀ y0 y1,LeO (mosaicref01_Words.l1 k y0 y1) (mosaicref01_Words.l1 (k+1) y0 y1))
 | 0=>⟨fun _ _ _ r h=>by simp [mosaicref01_Words.l0] at h,fun _ _ r h=>by simp [mosaicref01_Words.l1] at h⟩
 | k+1=>by
  obtain ⟨ih0,ih1⟩:=mosaicref01_Words.mono_l k
  refine ⟨?_,?_⟩
  ·
   intro y0 y1 y2
   unfold mosaicref01_Words.l0
   repeat' first
   | (with_reducible exact ih0 _ _ _)
   | (with_reducible exact ih1 _ _)
   | (with_reducible exact LeO.refl _)
   | (with_reducible exact LeO.none _)
   | (with_reducible refine LeO.ite ?_ ?_)
   | (with_reducible refine LeO.bind ?_ (fun _=>?_))
   | exact ih0 _ _ _
   | exact ih1 _ _
   | exact LeO.none _
   | refine LeO.ite ?_ ?_
   | refine LeO.bind ?_ (fun _=>?_)
  ·
   intro y0 y1
   unfold mosaicref01_Words.l1
   repeat' first
   | (with_reducible exact ih0 _ _ _)
   | (with_reducible exact ih1 _ _)
   | (with_reducible exact LeO.refl _)
   | (with_reducible exact LeO.none _)
   | (with_reducible refine LeO.ite ?_ ?_)
   | (with_reducible refine LeO.bind ?_ (fun _=>?_))
   | exact ih0 _ _ _
   | exact ih1 _ _
   | exact LeO.none _
   | refine LeO.ite ?_ ?_
   | refine LeO.bind ?_ (fun _=>?_)
theorem mosaicref01_Words.mono:∀ a0 k,LeO (mosaicref01_Words.f k a0) (mosaicref01_Words.f (k+1) a0):=by
 intro a0 k
 obtain ⟨ih0,ih1⟩:=mosaicref01_Words.mono_l k
 unfold mosaicref01_Words.f
 repeat' first
   | (with_reducible exact ih0 _ _ _)
   | (with_reducible exact ih1 _ _)
   | (with_reducible exact LeO.refl _)
   | (with_reducible exact LeO.none _)
   | (with_reducible refine LeO.ite ?_ ?_)
   | (with_reducible refine LeO.bind ?_ (fun _=>?_))
   | exact ih0 _ _ _
   | exact ih1 _ _
   | exact LeO.none _
   | refine LeO.ite ?_ ?_
   | refine LeO.bind ?_ (fun _=>?_)
def mosaicref01_Words.T5:Bool×List (List Nat×List Nat):=(true,[([],[]),([],[]),([],[]),([2],[2]),([1,3],[1,3]),([4],[4]),([5],[5]),([],[]),([],[]),([8],[8]),([9],[9]),([7,10],[7,10]),([11],[11]),([12],[12]),([6,13],[6,13]),([],[]),([],[]),([16],[16]),([17],[17]),([15,18],[15,18]),([19],[19]),([20],[20]),([14,21],[14,21]),([],[]),([],[]),([24],[24]),([25],[25]),([23,26],[23,26]),([27],[27]),([22,28],[22,28]),([29],[29]),([0,30],[0,30]),([31,31,0,1,2,3,4,5,6,7,8,9,10,11,12,13,14,15,16,17,18,19,20,21,22,23,24,25,26,27,28,29,30,31],[0,31])])
def mosaicref01_Words.B5:List Nat:=[0,0,0,4,14,30,62,0,0,256,768,1920,3968,8064,16382,0,0,65536,196608,491520,1015808,2064384,4194302,0,0,16777216,50331648,125829120,260046848,536870910,1073741822,2147483647,4294967295]
theorem mosaicref01_Words.tab5:rtab .any (opsOf Try.f84 5)=mosaicref01_Words.T5:=by kernel_rfl
theorem mosaicref01_Words.bits5:waitsOk mosaicref01_Words.T5.2 mosaicref01_Words.B5=true:=by kernel_rfl
def mosaicref01_Words.T13:Bool×List (List Nat×List Nat):=(true,[([],[]),([],[]),([],[]),([],[]),([3],[3]),([2,4],[2,4]),([5],[5]),([1,6],[1,6]),([],[]),([7,8],[7,8]),([],[]),([],[]),([11],[11]),([10,12],[10,12]),([13],[13]),([9,14],[9,14]),([15],[15]),([0,16],[0,16]),([17,17,0,1,2,3,4,5,6,7,8,9,10,11,12,13,14,15,16,17],[0,2,10,17])])
def mosaicref01_Words.B13:List Nat:=[0,0,0,0,8,28,60,126,0,510,0,0,2048,7168,15360,32766,65534,131071,262143]
theorem mosaicref01_Words.tab13:rtab .any (opsOf Try.f84 13)=mosaicref01_Words.T13:=by kernel_rfl
theorem mosaicref01_Words.bits13:waitsOk mosaicref01_Words.T13.2 mosaicref01_Words.B13=true:=by kernel_rfl
set_option maxHeartbeats 8000000 in
set_option maxRecDepth 100000 in
theorem mosaicref01_Words.calls (k:Nat) (a0:ByteArray) (r:List Int) (w:World) (h:mosaicref01_Words.f k a0=some r) :
  Calls Try.prog 84 #[.string a0] w fun e w'=>∃ v0_:Value,e=.returned (v0_)∧Kd.R (Kd.int .u32) 27 w' w.heap.size (fun _=>True) v0_ r∧Below w.heap.size w w':=by
 have HB:=Aside0.mk (Below.refl w.heap.size w)
 have H:(mosaicref01_Words.l0 k a0 ([]:List Int) 0)=some r:=h
 clear h
 have H':=Aside0.mk H
 clear H
 go_enter Try.func84,Try.ntmps84
 go_wp2
 go_loopg [3,4] k (fun kq v3 v4 w'=>∃ (x3_1:List Int) (x4_1:Int),v4=.int .i64 x4_1∧Aside0 (mosaicref01_Words.l0 kq a0 x3_1 x4_1=some r)∧Aside0 (kq≤k)∧Aside0 (Kd.R (Kd.int .u32) 27 w' w.heap.size (fun _=>True) v3 x3_1)∧Aside0 (Below w.heap.size w w'))
 case atStart=>exact ⟨(([]:List Int)),(0),(by first|rfl|(simp;done)|(simp [*];done)),H',⟨Nat.le_refl _⟩,⟨by first|exact Kd.R_nil _ _ _ _ _|exact Kd.N_nil _ _ _ _ _|exact Kd.V_nil _ _ _ _ _|exact Kd.Q_nil _ _ _ _ _|exact Kd.S_nil _ _ _ _ _⟩,⟨by repeat (first|(with_reducible first|exact HB.out|apply below_alloc|apply pw_below_drewN|apply below_drew1)|exact HB.out)⟩⟩
 case round =>
  clear H'
  obtain ⟨x3_1,x4_1,rfl,HA,HK1,HO_3,HB⟩:=hrel
  cases gk with
  | zero=>exact absurd HA.out (by simp [mosaicref01_Words.l0])
  | succ k1 =>
   have H:=HA.out
   clear HA
   simp only [mosaicref01_Words.l0] at H
   by_cases c2:x4_1 < 16
   ·
    rw [if_pos c2] at H
    have c2b0:decide (x4_1 < 16)=true:=decide_eq_true c2
    clear c2
    obtain ⟨ji3,hji3⟩:∃ j_:Int,(wrap64 (4 * x4_1))=j_:=⟨_,rfl⟩
    replace H:(if 0≤(ji3) then (if (ji3) < (a0.size:Int) then (if 0≤(wrap64 ((ji3)+1)) then (if (wrap64 ((ji3)+1)) < (a0.size:Int) then (if 0≤(wrap64 ((ji3)+2)) then (if (wrap64 ((ji3)+2)) < (a0.size:Int) then (if 0≤(wrap64 ((ji3)+3)) then (if (wrap64 ((ji3)+3)) < (a0.size:Int) then (if x3_1.length < 35184372088832 then (mosaicref01_Words.l0 k1 a0 (x3_1 ++ [(((((((((bt a0 (ji3)) % 4294967296) * 16777216) % 4294967296)+((((bt a0 (wrap64 ((ji3)+1))) % 4294967296) * 65536) % 4294967296)) % 4294967296)+((((bt a0 (wrap64 ((ji3)+2))) % 4294967296) * 256) % 4294967296)) % 4294967296)+((bt a0 (wrap64 ((ji3)+3))) % 4294967296)) % 4294967296]) (wrap64 (x4_1+1))) else (none)) else (none)) else (none)) else (none)) else (none)) else (none)) else (none)) else (none)) else (none))=some r:=by first|(rw [hji3] at H;exact H)|(simp only [hji3] at H ⊢;exact H)
    have hji3w:(IntKind.i64.wrap (4 * x4_1))=ji3:=(i64_w _).trans hji3
    by_cases c4:0≤(ji3)
    ·
     rw [if_pos c4] at H
     have c4b0:decide (0≤(ji3))=true:=decide_eq_true c4
     clear c4
     by_cases c5:(ji3) < (a0.size:Int)
     ·
      rw [if_pos c5] at H
      have c5b0:decide ((ji3) < (a0.size:Int))=true:=decide_eq_true c5
      clear c5
      obtain ⟨ji7,hji7⟩:∃ j_:Int,(wrap64 ((ji3)+1))=j_:=⟨_,rfl⟩
      replace H:(if 0≤(ji7) then (if (ji7) < (a0.size:Int) then (if 0≤(wrap64 ((ji3)+2)) then (if (wrap64 ((ji3)+2)) < (a0.size:Int) then (if 0≤(wrap64 ((ji3)+3)) then (if (wrap64 ((ji3)+3)) < (a0.size:Int) then (if x3_1.length < 35184372088832 then (mosaicref01_Words.l0 k1 a0 (x3_1 ++ [(((((((((bt a0 (ji3)) % 4294967296) * 16777216) % 4294967296)+((((bt a0 (ji7)) % 4294967296) * 65536) % 4294967296)) % 4294967296)+((((bt a0 (wrap64 ((ji3)+2))) % 4294967296) * 256) % 4294967296)) % 4294967296)+((bt a0 (wrap64 ((ji3)+3))) % 4294967296)) % 4294967296]) (wrap64 (x4_1+1))) else (none)) else (none)) else (none)) else (none)) else (none)) else (none)) else (none))=some r:=by first|(rw [hji7] at H;exact H)|(simp only [hji7] at H ⊢;exact H)
      have hji7w:(IntKind.i64.wrap ((ji3)+1))=ji7:=(i64_w _).trans hji7
      by_cases c8:0≤(ji7)
      ·
       rw [if_pos c8] at H
       have c8b0:decide (0≤(ji7))=true:=decide_eq_true c8
       clear c8
       by_cases c9:(ji7) < (a0.size:Int)
       ·
        rw [if_pos c9] at H
        have c9b0:decide ((ji7) < (a0.size:Int))=true:=decide_eq_true c9
        clear c9
        obtain ⟨ji11,hji11⟩:∃ j_:Int,(wrap64 ((ji3)+2))=j_:=⟨_,rfl⟩
        replace H:(if 0≤(ji11) then (if (ji11) < (a0.size:Int) then (if 0≤(wrap64 ((ji3)+3)) then (if (wrap64 ((ji3)+3)) < (a0.size:Int) then (if x3_1.length < 35184372088832 then (mosaicref01_Words.l0 k1 a0 (x3_1 ++ [(((((((((bt a0 (ji3)) % 4294967296) * 16777216) % 4294967296)+((((bt a0 (ji7)) % 4294967296) * 65536) % 4294967296)) % 4294967296)+((((bt a0 (ji11)) % 4294967296) * 256) % 4294967296)) % 4294967296)+((bt a0 (wrap64 ((ji3)+3))) % 4294967296)) % 4294967296]) (wrap64 (x4_1+1))) else (none)) else (none)) else (none)) else (none)) else (none))=some r:=by first|(rw [hji11] at H;exact H)|(simp only [hji11] at H ⊢;exact H)
        have hji11w:(IntKind.i64.wrap ((ji3)+2))=ji11:=(i64_w _).trans hji11
        by_cases c12:0≤(ji11)
        ·
         rw [if_pos c12] at H
         have c12b0:decide (0≤(ji11))=true:=decide_eq_true c12
         clear c12
         by_cases c13:(ji11) < (a0.size:Int)
         ·
          rw [if_pos c13] at H
          have c13b0:decide ((ji11) < (a0.size:Int))=true:=decide_eq_true c13
          clear c13
          obtain ⟨ji15,hji15⟩:∃ j_:Int,(wrap64 ((ji3)+3))=j_:=⟨_,rfl⟩
          replace H:(if 0≤(ji15) then (if (ji15) < (a0.size:Int) then (if x3_1.length < 35184372088832 then (mosaicref01_Words.l0 k1 a0 (x3_1 ++ [(((((((((bt a0 (ji3)) % 4294967296) * 16777216) % 4294967296)+((((bt a0 (ji7)) % 4294967296) * 65536) % 4294967296)) % 4294967296)+((((bt a0 (ji11)) % 4294967296) * 256) % 4294967296)) % 4294967296)+((bt a0 (ji15)) % 4294967296)) % 4294967296]) (wrap64 (x4_1+1))) else (none)) else (none)) else (none))=some r:=by first|(rw [hji15] at H;exact H)|(simp only [hji15] at H ⊢;exact H)
          have hji15w:(IntKind.i64.wrap ((ji3)+3))=ji15:=(i64_w _).trans hji15
          by_cases c16:0≤(ji15)
          ·
           rw [if_pos c16] at H
           have c16b0:decide (0≤(ji15))=true:=decide_eq_true c16
           clear c16
           by_cases c17:(ji15) < (a0.size:Int)
           ·
            rw [if_pos c17] at H
            have c17b0:decide ((ji15) < (a0.size:Int))=true:=decide_eq_true c17
            clear c17
            by_cases c19:x3_1.length < 35184372088832
            ·
             rw [if_pos c19] at H
             have LMc19:=Aside0.mk c19
             clear c19
             obtain ⟨y131,hy131⟩:∃ y_:List Int,y_=(x3_1 ++ [(((((((((bt a0 (ji3)) % 4294967296) * 16777216) % 4294967296)+((((bt a0 (ji7)) % 4294967296) * 65536) % 4294967296)) % 4294967296)+((((bt a0 (ji11)) % 4294967296) * 256) % 4294967296)) % 4294967296)+((bt a0 (ji15)) % 4294967296)) % 4294967296]):=⟨_,rfl⟩
             replace H:(mosaicref01_Words.l0 k1 a0 y131 (wrap64 (x4_1+1)))=some r:=by first|(rw [hy131];with_reducible exact H)|(have H2_:=(Option.bind_some _ _).symm.trans H;rw [hy131];with_reducible exact H2_)|(have H2_:=(Option.bind_some _ _).symm.trans H;with_reducible exact H2_)|with_reducible exact H|(rw [hy131];exact H)|exact H
             have Ny131:=Aside0.mk hy131
             clear hy131
             have H':=Aside0.mk H
             clear H
             try go_wp2
             have n0_:=Aside0.mk (Kd.R_drew HO_3.out)
             have n1_:=Aside0.mk (below_drew1 HB.out)
             clear HO_3
             clear HB
             have HO_3:=n0_
             have HB:=n1_
             clear n0_ n1_
             have p6:0≤((ji3):Int):=of_decide_eq_true (by first|(with_reducible assumption)|assumption)
             have q6:(ji3) < (a0.size:Int):=of_decide_eq_true (by first|(with_reducible assumption)|assumption)
             have hx6:=bt_at a0 (ji3)
             replace p6:=eq_true p6
             replace q6:=eq_true q6
             have p10:0≤((ji7):Int):=of_decide_eq_true (by first|(with_reducible assumption)|assumption)
             have q10:(ji7) < (a0.size:Int):=of_decide_eq_true (by first|(with_reducible assumption)|assumption)
             have hx10:=bt_at a0 (ji7)
             replace p10:=eq_true p10
             replace q10:=eq_true q10
             have p14:0≤((ji11):Int):=of_decide_eq_true (by first|(with_reducible assumption)|assumption)
             have q14:(ji11) < (a0.size:Int):=of_decide_eq_true (by first|(with_reducible assumption)|assumption)
             have hx14:=bt_at a0 (ji11)
             replace p14:=eq_true p14
             replace q14:=eq_true q14
             have p18:0≤((ji15):Int):=of_decide_eq_true (by first|(with_reducible assumption)|assumption)
             have q18:(ji15) < (a0.size:Int):=of_decide_eq_true (by first|(with_reducible assumption)|assumption)
             have hx18:=bt_at a0 (ji15)
             replace p18:=eq_true p18
             replace q18:=eq_true q18
             refine start_ (n:=33) (S:=fun w'=>True) (ds:=[]) #[false,false,false,false,false,false,false,false,false,false,false,false,false,false,false,false,false,false,false,false,false,false,false,false,false,false,false,false,false,false,false,false,false] (by kernel_rfl) rfl rfl trivial (fun hHeld=>?_);refine with_tabW mosaicref01_Words.tab5 mosaicref01_Words.bits5 (fun HT_ HW_=>?_)
             generalize wr.drew=w20 at HO_3 HB hHeld ⊢
             refine pure_ (i:=0) (N:=some 14) (v:=?_) (a':=?_) #[true,false,false,false,false,false,false,false,false,false,false,false,false,false,false,false,false,false,false,false,false,false,false,false,false,false,false,false,false,false,false,false,false] rfl rfl (any_of HT_.out (by kernel_rfl)) (fun _ _ _ h=>h) (Or.inl ⟨by rfl,?_⟩) ?_ ?_
             rotate_left
             ·
              intro w'
              go_simp
              with_reducible rfl
             rotate_left
             ·
              simp only [Act.put,List.setIfInBounds_toArray,List.set_cons_zero,List.set_cons_succ,i64_w,i32_w]
              rfl
             refine pure_ (i:=1) (N:=some 15) (v:=?_) (a':=?_) #[true,true,false,false,false,false,false,false,false,false,false,false,false,false,false,false,false,false,false,false,false,false,false,false,false,false,false,false,false,false,false,false,false] rfl rfl (any_of HT_.out (by kernel_rfl)) (fun _ _ _ h=>h) (Or.inl ⟨by rfl,?_⟩) ?_ ?_
             rotate_left
             ·
              intro w'
              go_simp
              with_reducible rfl
             rotate_left
             ·
              simp only [Act.put,List.setIfInBounds_toArray,List.set_cons_zero,List.set_cons_succ,i64_w,i32_w]
              rfl
             refine pure_ (i:=2) (N:=some 16) (v:=?_) (a':=?_) #[true,true,true,false,false,false,false,false,false,false,false,false,false,false,false,false,false,false,false,false,false,false,false,false,false,false,false,false,false,false,false,false,false] rfl rfl (any_of HT_.out (by kernel_rfl)) (fun _ _ _ h=>h) (Or.inl ⟨by rfl,?_⟩) ?_ ?_
             rotate_left
             ·
              intro w'
              go_simp
              with_reducible rfl
             rotate_left
             ·
              simp only [Act.put,List.setIfInBounds_toArray,List.set_cons_zero,List.set_cons_succ,i64_w,i32_w]
              rfl
             refine pure_ (i:=3) (N:=some 17) (v:=?_) (a':=?_) #[true,true,true,true,false,false,false,false,false,false,false,false,false,false,false,false,false,false,false,false,false,false,false,false,false,false,false,false,false,false,false,false,false] rfl rfl (any_of HT_.out (by kernel_rfl)) (fun _ _ _ h=>h) (Or.inl ⟨by rfl,?_⟩) ?_ ?_
             rotate_left
             ·
              intro w'
              go_simp
              with_reducible rfl
             rotate_left
             ·
              simp only [Act.put,List.setIfInBounds_toArray,List.set_cons_zero,List.set_cons_succ,i64_w,i32_w]
              rfl
             refine pure_ (i:=7) (N:=some 21) (v:=?_) (a':=?_) #[true,true,true,true,false,false,false,true,false,false,false,false,false,false,false,false,false,false,false,false,false,false,false,false,false,false,false,false,false,false,false,false,false] rfl rfl (any_of HT_.out (by kernel_rfl)) (fun _ _ _ h=>h) (Or.inl ⟨by rfl,?_⟩) ?_ ?_
             rotate_left
             ·
              intro w'
              go_simp
              with_reducible rfl
             rotate_left
             ·
              simp only [Act.put,List.setIfInBounds_toArray,List.set_cons_zero,List.set_cons_succ,i64_w,i32_w]
              rfl
             refine pure_ (i:=8) (N:=some 22) (v:=?_) (a':=?_) #[true,true,true,true,false,false,false,true,true,false,false,false,false,false,false,false,false,false,false,false,false,false,false,false,false,false,false,false,false,false,false,false,false] rfl rfl (any_of HT_.out (by kernel_rfl)) (fun _ _ _ h=>h) (Or.inl ⟨by rfl,?_⟩) ?_ ?_
             rotate_left
             ·
              intro w'
              go_simp
              with_reducible rfl
             rotate_left
             ·
              simp only [Act.put,List.setIfInBounds_toArray,List.set_cons_zero,List.set_cons_succ,i64_w,i32_w]
              rfl
             refine pure_ (i:=9) (N:=some 23) (v:=?_) (a':=?_) #[true,true,true,true,false,false,false,true,true,true,false,false,false,false,false,false,false,false,false,false,false,false,false,false,false,false,false,false,false,false,false,false,false] rfl rfl (any_of HT_.out (by kernel_rfl)) (fun _ _ _ h=>h) (Or.inl ⟨by rfl,?_⟩) ?_ ?_
             rotate_left
             ·
              intro w'
              go_simp
              with_reducible rfl
             rotate_left
             ·
              simp only [Act.put,List.setIfInBounds_toArray,List.set_cons_zero,List.set_cons_succ,i64_w,i32_w]
              rfl
             refine pure_ (i:=10) (N:=some 24) (v:=?_) (a':=?_) #[true,true,true,true,false,false,false,true,true,true,true,false,false,false,false,false,false,false,false,false,false,false,false,false,false,false,false,false,false,false,false,false,false] rfl rfl (any_of HT_.out (by kernel_rfl)) (fun _ _ _ h=>h) (Or.inl ⟨by rfl,?_⟩) ?_ ?_
             rotate_left
             ·
              intro w'
              go_simp
              with_reducible rfl
             rotate_left
             ·
              simp only [Act.put,List.setIfInBounds_toArray,List.set_cons_zero,List.set_cons_succ,i64_w,i32_w]
              rfl
             refine pure_ (i:=15) (N:=some 29) (v:=?_) (a':=?_) #[true,true,true,true,false,false,false,true,true,true,true,false,false,false,false,true,false,false,false,false,false,false,false,false,false,false,false,false,false,false,false,false,false] rfl rfl (any_of HT_.out (by kernel_rfl)) (fun _ _ _ h=>h) (Or.inl ⟨by rfl,?_⟩) ?_ ?_
             rotate_left
             ·
              intro w'
              go_simp
              with_reducible rfl
             rotate_left
             ·
              simp only [Act.put,List.setIfInBounds_toArray,List.set_cons_zero,List.set_cons_succ,i64_w,i32_w]
              rfl
             refine pure_ (i:=16) (N:=some 30) (v:=?_) (a':=?_) #[true,true,true,true,false,false,false,true,true,true,true,false,false,false,false,true,true,false,false,false,false,false,false,false,false,false,false,false,false,false,false,false,false] rfl rfl (any_of HT_.out (by kernel_rfl)) (fun _ _ _ h=>h) (Or.inl ⟨by rfl,?_⟩) ?_ ?_
             rotate_left
             ·
              intro w'
              go_simp
              with_reducible rfl
             rotate_left
             ·
              simp only [Act.put,List.setIfInBounds_toArray,List.set_cons_zero,List.set_cons_succ,i64_w,i32_w]
              rfl
             refine pure_ (i:=17) (N:=some 31) (v:=?_) (a':=?_) #[true,true,true,true,false,false,false,true,true,true,true,false,false,false,false,true,true,true,false,false,false,false,false,false,false,false,false,false,false,false,false,false,false] rfl rfl (any_of HT_.out (by kernel_rfl)) (fun _ _ _ h=>h) (Or.inl ⟨by rfl,?_⟩) ?_ ?_
             rotate_left
             ·
              intro w'
              go_simp
              with_reducible rfl
             rotate_left
             ·
              simp only [Act.put,List.setIfInBounds_toArray,List.set_cons_zero,List.set_cons_succ,i64_w,i32_w]
              rfl
             refine pure_ (i:=18) (N:=some 32) (v:=?_) (a':=?_) #[true,true,true,true,false,false,false,true,true,true,true,false,false,false,false,true,true,true,true,false,false,false,false,false,false,false,false,false,false,false,false,false,false] rfl rfl (any_of HT_.out (by kernel_rfl)) (fun _ _ _ h=>h) (Or.inl ⟨by rfl,?_⟩) ?_ ?_
             rotate_left
             ·
              intro w'
              go_simp
              with_reducible rfl
             rotate_left
             ·
              simp only [Act.put,List.setIfInBounds_toArray,List.set_cons_zero,List.set_cons_succ,i64_w,i32_w]
              rfl
             refine pure_ (i:=23) (N:=some 37) (v:=?_) (a':=?_) #[true,true,true,true,false,false,false,true,true,true,true,false,false,false,false,true,true,true,true,false,false,false,false,true,false,false,false,false,false,false,false,false,false] rfl rfl (any_of HT_.out (by kernel_rfl)) (fun _ _ _ h=>h) (Or.inl ⟨by rfl,?_⟩) ?_ ?_
             rotate_left
             ·
              intro w'
              go_simp
              with_reducible rfl
             rotate_left
             ·
              simp only [Act.put,List.setIfInBounds_toArray,List.set_cons_zero,List.set_cons_succ,i64_w,i32_w]
              rfl
             refine pure_ (i:=24) (N:=some 38) (v:=?_) (a':=?_) #[true,true,true,true,false,false,false,true,true,true,true,false,false,false,false,true,true,true,true,false,false,false,false,true,true,false,false,false,false,false,false,false,false] rfl rfl (any_of HT_.out (by kernel_rfl)) (fun _ _ _ h=>h) (Or.inl ⟨by rfl,?_⟩) ?_ ?_
             rotate_left
             ·
              intro w'
              go_simp
              with_reducible rfl
             rotate_left
             ·
              simp only [Act.put,List.setIfInBounds_toArray,List.set_cons_zero,List.set_cons_succ,i64_w,i32_w]
              rfl
             refine pure_ (i:=25) (N:=some 39) (v:=?_) (a':=?_) #[true,true,true,true,false,false,false,true,true,true,true,false,false,false,false,true,true,true,true,false,false,false,false,true,true,true,false,false,false,false,false,false,false] rfl rfl (any_of HT_.out (by kernel_rfl)) (fun _ _ _ h=>h) (Or.inl ⟨by rfl,?_⟩) ?_ ?_
             rotate_left
             ·
              intro w'
              go_simp
              with_reducible rfl
             rotate_left
             ·
              simp only [Act.put,List.setIfInBounds_toArray,List.set_cons_zero,List.set_cons_succ,i64_w,i32_w]
              rfl
             refine pure_ (i:=26) (N:=some 40) (v:=?_) (a':=?_) #[true,true,true,true,false,false,false,true,true,true,true,false,false,false,false,true,true,true,true,false,false,false,false,true,true,true,true,false,false,false,false,false,false] rfl rfl (any_of HT_.out (by kernel_rfl)) (fun _ _ _ h=>h) (Or.inl ⟨by rfl,?_⟩) ?_ ?_
             rotate_left
             ·
              intro w'
              go_simp
              with_reducible rfl
             rotate_left
             ·
              simp only [Act.put,List.setIfInBounds_toArray,List.set_cons_zero,List.set_cons_succ,i64_w,i32_w]
              rfl
             refine take_ (i:=4) (N:=some 18) (v:=?_) (a':=?_) #[true,true,true,true,true,false,false,true,true,true,true,false,false,false,false,true,true,true,true,false,false,false,false,true,true,true,true,false,false,false,false,false,false] rfl rfl (take_ofW HT_.out HW_.out (by kernel_rfl)) (fun _ _ _ h=>h) (Or.inl ⟨by rfl,?_⟩) hHeld ?_ ?_
             rotate_left
             ·
              intro w' _
              go_simp
              with_reducible rfl
             rotate_left
             ·
              simp only [Act.put,List.setIfInBounds_toArray,List.set_cons_zero,List.set_cons_succ,i64_w,i32_w]
              rfl
             refine pure_ (i:=5) (N:=some 19) (v:=?_) (a':=?_) #[true,true,true,true,true,true,false,true,true,true,true,false,false,false,false,true,true,true,true,false,false,false,false,true,true,true,true,false,false,false,false,false,false] rfl rfl (any_of HT_.out (by kernel_rfl)) (fun _ _ _ h=>h) (Or.inl ⟨by rfl,?_⟩) ?_ ?_
             rotate_left
             ·
              intro w'
              go_simp
              with_reducible rfl
             rotate_left
             ·
              simp only [Act.put,List.setIfInBounds_toArray,List.set_cons_zero,List.set_cons_succ,i64_w,i32_w]
              rfl
             refine pure_ (i:=6) (N:=some 20) (v:=?_) (a':=?_) #[true,true,true,true,true,true,true,true,true,true,true,false,false,false,false,true,true,true,true,false,false,false,false,true,true,true,true,false,false,false,false,false,false] rfl rfl (any_of HT_.out (by kernel_rfl)) (fun _ _ _ h=>h) (Or.inl ⟨by rfl,?_⟩) ?_ ?_
             rotate_left
             ·
              intro w'
              go_simp
              with_reducible rfl
             rotate_left
             ·
              simp only [Act.put,List.setIfInBounds_toArray,List.set_cons_zero,List.set_cons_succ,i64_w,i32_w]
              rfl
             refine take_ (i:=11) (N:=some 25) (v:=?_) (a':=?_) #[true,true,true,true,true,true,true,true,true,true,true,true,false,false,false,true,true,true,true,false,false,false,false,true,true,true,true,false,false,false,false,false,false] rfl rfl (take_ofW HT_.out HW_.out (by kernel_rfl)) (fun _ _ _ h=>h) (Or.inl ⟨by rfl,?_⟩) hHeld ?_ ?_
             rotate_left
             ·
              intro w' _
              go_simp
              with_reducible rfl
             rotate_left
             ·
              simp only [Act.put,List.setIfInBounds_toArray,List.set_cons_zero,List.set_cons_succ,i64_w,i32_w]
              rfl
             refine pure_ (i:=12) (N:=some 26) (v:=?_) (a':=?_) #[true,true,true,true,true,true,true,true,true,true,true,true,true,false,false,true,true,true,true,false,false,false,false,true,true,true,true,false,false,false,false,false,false] rfl rfl (any_of HT_.out (by kernel_rfl)) (fun _ _ _ h=>h) (Or.inl ⟨by rfl,?_⟩) ?_ ?_
             rotate_left
             ·
              intro w'
              go_simp
              with_reducible rfl
             rotate_left
             ·
              simp only [Act.put,List.setIfInBounds_toArray,List.set_cons_zero,List.set_cons_succ,i64_w,i32_w]
              rfl
             refine pure_ (i:=13) (N:=some 27) (v:=?_) (a':=?_) #[true,true,true,true,true,true,true,true,true,true,true,true,true,true,false,true,true,true,true,false,false,false,false,true,true,true,true,false,false,false,false,false,false] rfl rfl (any_of HT_.out (by kernel_rfl)) (fun _ _ _ h=>h) (Or.inl ⟨by rfl,?_⟩) ?_ ?_
             rotate_left
             ·
              intro w'
              go_simp
              with_reducible rfl
             rotate_left
             ·
              simp only [Act.put,List.setIfInBounds_toArray,List.set_cons_zero,List.set_cons_succ,i64_w,i32_w]
              rfl
             refine pure_ (i:=14) (N:=some 28) (v:=?_) (a':=?_) #[true,true,true,true,true,true,true,true,true,true,true,true,true,true,true,true,true,true,true,false,false,false,false,true,true,true,true,false,false,false,false,false,false] rfl rfl (any_of HT_.out (by kernel_rfl)) (fun _ _ _ h=>h) (Or.inl ⟨by rfl,?_⟩) ?_ ?_
             rotate_left
             ·
              intro w'
              go_simp
              with_reducible rfl
             rotate_left
             ·
              simp only [Act.put,List.setIfInBounds_toArray,List.set_cons_zero,List.set_cons_succ,i64_w,i32_w]
              rfl
             refine take_ (i:=19) (N:=some 33) (v:=?_) (a':=?_) #[true,true,true,true,true,true,true,true,true,true,true,true,true,true,true,true,true,true,true,true,false,false,false,true,true,true,true,false,false,false,false,false,false] rfl rfl (take_ofW HT_.out HW_.out (by kernel_rfl)) (fun _ _ _ h=>h) (Or.inl ⟨by rfl,?_⟩) hHeld ?_ ?_
             rotate_left
             ·
              intro w' _
              go_simp
              with_reducible rfl
             rotate_left
             ·
              simp only [Act.put,List.setIfInBounds_toArray,List.set_cons_zero,List.set_cons_succ,i64_w,i32_w]
              rfl
             refine pure_ (i:=20) (N:=some 34) (v:=?_) (a':=?_) #[true,true,true,true,true,true,true,true,true,true,true,true,true,true,true,true,true,true,true,true,true,false,false,true,true,true,true,false,false,false,false,false,false] rfl rfl (any_of HT_.out (by kernel_rfl)) (fun _ _ _ h=>h) (Or.inl ⟨by rfl,?_⟩) ?_ ?_
             rotate_left
             ·
              intro w'
              go_simp
              with_reducible rfl
             rotate_left
             ·
              simp only [Act.put,List.setIfInBounds_toArray,List.set_cons_zero,List.set_cons_succ,i64_w,i32_w]
              rfl
             refine pure_ (i:=21) (N:=some 35) (v:=?_) (a':=?_) #[true,true,true,true,true,true,true,true,true,true,true,true,true,true,true,true,true,true,true,true,true,true,false,true,true,true,true,false,false,false,false,false,false] rfl rfl (any_of HT_.out (by kernel_rfl)) (fun _ _ _ h=>h) (Or.inl ⟨by rfl,?_⟩) ?_ ?_
             rotate_left
             ·
              intro w'
              go_simp
              with_reducible rfl
             rotate_left
             ·
              simp only [Act.put,List.setIfInBounds_toArray,List.set_cons_zero,List.set_cons_succ,i64_w,i32_w]
              rfl
             refine pure_ (i:=22) (N:=some 36) (v:=?_) (a':=?_) #[true,true,true,true,true,true,true,true,true,true,true,true,true,true,true,true,true,true,true,true,true,true,true,true,true,true,true,false,false,false,false,false,false] rfl rfl (any_of HT_.out (by kernel_rfl)) (fun _ _ _ h=>h) (Or.inl ⟨by rfl,?_⟩) ?_ ?_
             rotate_left
             ·
              intro w'
              go_simp
              with_reducible rfl
             rotate_left
             ·
              simp only [Act.put,List.setIfInBounds_toArray,List.set_cons_zero,List.set_cons_succ,i64_w,i32_w]
              rfl
             refine take_ (i:=27) (N:=some 41) (v:=?_) (a':=?_) #[true,true,true,true,true,true,true,true,true,true,true,true,true,true,true,true,true,true,true,true,true,true,true,true,true,true,true,true,false,false,false,false,false] rfl rfl (take_ofW HT_.out HW_.out (by kernel_rfl)) (fun _ _ _ h=>h) (Or.inl ⟨by rfl,?_⟩) hHeld ?_ ?_
             rotate_left
             ·
              intro w' _
              go_simp
              with_reducible rfl
             rotate_left
             ·
              simp only [Act.put,List.setIfInBounds_toArray,List.set_cons_zero,List.set_cons_succ,i64_w,i32_w]
              rfl
             refine pure_ (i:=28) (N:=some 42) (v:=?_) (a':=?_) #[true,true,true,true,true,true,true,true,true,true,true,true,true,true,true,true,true,true,true,true,true,true,true,true,true,true,true,true,true,false,false,false,false] rfl rfl (any_of HT_.out (by kernel_rfl)) (fun _ _ _ h=>h) (Or.inl ⟨by rfl,?_⟩) ?_ ?_
             rotate_left
             ·
              intro w'
              go_simp
              with_reducible rfl
             rotate_left
             ·
              simp only [Act.put,List.setIfInBounds_toArray,List.set_cons_zero,List.set_cons_succ,i64_w,i32_w]
              rfl
             refine pure_ (i:=29) (N:=some 43) (v:=?_) (a':=?_) #[true,true,true,true,true,true,true,true,true,true,true,true,true,true,true,true,true,true,true,true,true,true,true,true,true,true,true,true,true,true,false,false,false] rfl rfl (any_of HT_.out (by kernel_rfl)) (fun _ _ _ h=>h) (Or.inl ⟨by rfl,?_⟩) ?_ ?_
             rotate_left
             ·
              intro w'
              go_simp
              with_reducible rfl
             rotate_left
             ·
              simp only [Act.put,List.setIfInBounds_toArray,List.set_cons_zero,List.set_cons_succ,i64_w,i32_w]
              rfl
             refine one_ (i:=30) (N:=some 44) #[true,true,true,true,true,true,true,true,true,true,true,true,true,true,true,true,true,true,true,true,true,true,true,true,true,true,true,true,true,true,true,false,false] rfl rfl (one_of HT_.out (by kernel_rfl)) (by decide) (fun K hK=>?_)
             refine value_ (w1:=?_) (v:=?_) (by rfl) rfl ?_ ?_
             rotate_left 2
             ·
              go_simp
              constructor
              ·
               rfl
              ·
               rfl
             refine hK.out _ _ trivial (fun hHeld=>?_)
             clear hK K
             refine norm_ (a':=?_) ?_ ?_
             rotate_left
             ·
              show Act.put _ (some 44) _=_
              simp only [Act.put,List.setIfInBounds_toArray,List.set_cons_zero,List.set_cons_succ,i64_w,i32_w]
              rfl
             refine one_ (i:=31) (N:=some 45) #[true,true,true,true,true,true,true,true,true,true,true,true,true,true,true,true,true,true,true,true,true,true,true,true,true,true,true,true,true,true,true,true,false] rfl rfl (one_of HT_.out (by kernel_rfl)) (by decide) (fun K hK=>?_)
             refine Kd.R_append_step (Kd.int .u32) (w0:=w) w.heap.size (by rfl) (.tmp 14) (.tmp 44) 33 27 (.int .u32 0) 4 rfl Try.underlying33 info27 rfl (by decide) (by omega) u3 x3_1 ((((((((((bt a0 (ji3)) % 4294967296) * 16777216) % 4294967296)+((((bt a0 (ji7)) % 4294967296) * 65536) % 4294967296)) % 4294967296)+((((bt a0 (ji11)) % 4294967296) * 256) % 4294967296)) % 4294967296)+((bt a0 (ji15)) % 4294967296)) % 4294967296) [.int .u32 ((((((((((bt a0 (ji3)) % 4294967296) * 16777216) % 4294967296)+((((bt a0 (ji7)) % 4294967296) * 65536) % 4294967296)) % 4294967296)+((((bt a0 (ji11)) % 4294967296) * 256) % 4294967296)) % 4294967296)+((bt a0 (ji15)) % 4294967296)) % 4294967296)] (fun _=>True) (fun _=>False) rfl rfl ?aP (fun _ hk=>hk.elim) ?aF ?aO ?aB ?aS ?aL ?_
             (case aP=>exact rfl)
             (case aB=>exact (by repeat (first|(with_reducible first|exact HB.out|apply below_alloc|apply pw_below_drewN|apply below_drew1)|exact HB.out)))
             (case aF=>exact (fun _ _=>trivial))
             (case aO=>exact (by (with_reducible repeat (first|apply Kd.R_alloc|apply Kd.R_drewN|apply Kd.R_drew));exact HO_3.out))
             (case aS=>exact (below_size (by repeat (first|(with_reducible first|exact HB.out|apply below_alloc|apply pw_below_drewN|apply below_drew1)|exact HB.out))))
             (case aL=>have:=LMc19.out;omega)
             intro v132 w21 ho hb hg hat
             rw [← Ny131.out] at ho
             have n0_:=Aside0.mk (hb)
             have n1_:=Aside0.mk (ho)
             clear HB
             clear HO_3
             have HB:=n0_
             have HO133:=n1_
             clear n0_ n1_
             clear ho hb hg hat
             refine hK.out _ _ trivial (fun hHeld=>?_)
             clear hK K
             refine norm_ (a':=?_) ?_ ?_
             rotate_left
             ·
              show Act.put _ (some 45) _=_
              simp only [Act.put,List.setIfInBounds_toArray,List.set_cons_zero,List.set_cons_succ,i64_w,i32_w]
              rfl
             refine pure_ (i:=32) (N:=some 3) (v:=?_) (a':=?_) #[true,true,true,true,true,true,true,true,true,true,true,true,true,true,true,true,true,true,true,true,true,true,true,true,true,true,true,true,true,true,true,true,true] rfl rfl (any_of HT_.out (by kernel_rfl)) (fun _ _ _ h=>h) (Or.inl ⟨by rfl,?_⟩) ?_ ?_
             rotate_left
             ·
              intro w'
              go_simp
              with_reducible rfl
             rotate_left
             ·
              simp only [Act.put,List.setIfInBounds_toArray,List.set_cons_zero,List.set_cons_succ,i64_w,i32_w]
              rfl
             refine done_ (done_of HT_.out (by kernel_rfl)) ?_
             try go_wp2
             go_roundg k1
             case measure=>have:=HK1.out;omega
             case rel=>exact ⟨(y131),(wrap64 (x4_1+1)),(by first|rfl|(simp;done)|(simp [*];done)),H',⟨by have:=HK1.out;omega⟩,⟨by (with_reducible repeat (first|apply Kd.R_alloc|apply Kd.R_drewN|apply Kd.R_drew));exact HO133.out⟩,⟨by repeat (first|(with_reducible first|exact HB.out|apply below_alloc|apply pw_below_drewN|apply below_drew1)|exact HB.out)⟩⟩
            ·
             rw [if_neg c19] at H
             exact absurd H (by simp)
           ·
            rw [if_neg c17] at H
            exact absurd H (by simp)
          ·
           rw [if_neg c16] at H
           exact absurd H (by simp)
         ·
          rw [if_neg c13] at H
          exact absurd H (by simp)
        ·
         rw [if_neg c12] at H
         exact absurd H (by simp)
       ·
        rw [if_neg c9] at H
        exact absurd H (by simp)
      ·
       rw [if_neg c8] at H
       exact absurd H (by simp)
     ·
      rw [if_neg c5] at H
      exact absurd H (by simp)
    ·
     rw [if_neg c4] at H
     exact absurd H (by simp)
   ·
    rw [if_neg c2] at H
    have c2b0:decide (x4_1 < 16)=false:=decide_eq_false c2
    clear c2
    have H':=Aside0.mk H
    clear H
    go_wp2
    go_loopg [3,5] k1 (fun kq v3 v5 w'=>∃ (x3_2:List Int) (x5_2:Int),v5=.int .i64 x5_2∧Aside0 (mosaicref01_Words.l1 kq x3_2 x5_2=some r)∧Aside0 (kq≤k1)∧Aside0 (Kd.R (Kd.int .u32) 27 w' w.heap.size (fun _=>True) v3 x3_2)∧Aside0 (Below w.heap.size w w'))
    case atStart=>exact ⟨(x3_1),(16),(by first|rfl|(simp;done)|(simp [*];done)),H',⟨Nat.le_refl _⟩,⟨by (with_reducible repeat (first|apply Kd.R_alloc|apply Kd.R_drewN|apply Kd.R_drew));exact HO_3.out⟩,⟨by repeat (first|(with_reducible first|exact HB.out|apply below_alloc|apply pw_below_drewN|apply below_drew1)|exact HB.out)⟩⟩
    case round =>
     clear H'
     try clear c1
     try clear p1
     try clear q1
     try clear hx1
     try clear c2
     try clear c2b0
     try clear p2
     try clear c4
     try clear c4b0
     try clear c5
     try clear c5b0
     try clear p6
     try clear q6
     try clear hx6
     try clear c8
     try clear c8b0
     try clear c9
     try clear c9b0
     try clear p10
     try clear q10
     try clear hx10
     try clear c12
     try clear c12b0
     try clear c13
     try clear c13b0
     try clear p14
     try clear q14
     try clear hx14
     try clear c16
     try clear c16b0
     try clear c17
     try clear c17b0
     try clear p18
     try clear q18
     try clear hx18
     try clear c19
     try clear p10
     try clear p14
     try clear p18
     try clear p6
     try clear q10
     try clear q14
     try clear q18
     try clear q6
     obtain ⟨x3_2,x5_2,rfl,HA,HK2,HO_3,HB⟩:=hrel
     cases gk with
     | zero=>exact absurd HA.out (by simp [mosaicref01_Words.l1])
     | succ k2 =>
      have H:=HA.out
      clear HA
      simp only [mosaicref01_Words.l1] at H
      by_cases c22:x5_2 < 64
      ·
       rw [if_pos c22] at H
       have c22b0:decide (x5_2 < 64)=true:=decide_eq_true c22
       clear c22
       obtain ⟨ji23,hji23⟩:∃ j_:Int,(wrap64 (x5_2 - 15))=j_:=⟨_,rfl⟩
       replace H:(if 0≤(ji23) then (if (ji23) < (x3_2.length:Int) then (if 0≤(wrap64 (x5_2 - 2)) then (if (wrap64 (x5_2 - 2)) < (x3_2.length:Int) then ((mosaicref01_rotr.f (rd x3_2 (ji23)) 7).bind fun t136=>((mosaicref01_rotr.f (rd x3_2 (ji23)) 18).bind fun t137=>((mosaicref01_rotr.f (rd x3_2 (wrap64 (x5_2 - 2))) 17).bind fun t138=>((mosaicref01_rotr.f (rd x3_2 (wrap64 (x5_2 - 2))) 19).bind fun t139=>(if 0≤(wrap64 (x5_2 - 7)) then (if (wrap64 (x5_2 - 7)) < (x3_2.length:Int) then (if 0≤(wrap64 (x5_2 - 16)) then (if (wrap64 (x5_2 - 16)) < (x3_2.length:Int) then (if x3_2.length < 35184372088832 then (mosaicref01_Words.l1 k2 (x3_2 ++ [((((((Go.bits .xor .u32 (Go.bits .xor .u32 t138 t139) ((rd x3_2 (wrap64 (x5_2 - 2))) / 1024))+(rd x3_2 (wrap64 (x5_2 - 7)))) % 4294967296)+(Go.bits .xor .u32 (Go.bits .xor .u32 t136 t137) ((rd x3_2 (ji23)) / 8))) % 4294967296)+(rd x3_2 (wrap64 (x5_2 - 16)))) % 4294967296]) (wrap64 (x5_2+1))) else (none)) else (none)) else (none)) else (none)) else (none)))))) else (none)) else (none)) else (none)) else (none))=some r:=by first|(rw [hji23] at H;exact H)|(simp only [hji23] at H ⊢;exact H)
       have hji23w:(IntKind.i64.wrap (x5_2 - 15))=ji23:=(i64_w _).trans hji23
       by_cases c24:0≤(ji23)
       ·
        rw [if_pos c24] at H
        have c24b0:decide (0≤(ji23))=true:=decide_eq_true c24
        clear c24
        by_cases c25:(ji23) < (x3_2.length:Int)
        ·
         rw [if_pos c25] at H
         have c25b0:decide ((ji23) < (x3_2.length:Int))=true:=decide_eq_true c25
         clear c25
         obtain ⟨ji26,hji26⟩:∃ j_:Int,(wrap64 (x5_2 - 2))=j_:=⟨_,rfl⟩
         replace H:(if 0≤(ji26) then (if (ji26) < (x3_2.length:Int) then ((mosaicref01_rotr.f (rd x3_2 (ji23)) 7).bind fun t136=>((mosaicref01_rotr.f (rd x3_2 (ji23)) 18).bind fun t137=>((mosaicref01_rotr.f (rd x3_2 (ji26)) 17).bind fun t138=>((mosaicref01_rotr.f (rd x3_2 (ji26)) 19).bind fun t139=>(if 0≤(wrap64 (x5_2 - 7)) then (if (wrap64 (x5_2 - 7)) < (x3_2.length:Int) then (if 0≤(wrap64 (x5_2 - 16)) then (if (wrap64 (x5_2 - 16)) < (x3_2.length:Int) then (if x3_2.length < 35184372088832 then (mosaicref01_Words.l1 k2 (x3_2 ++ [((((((Go.bits .xor .u32 (Go.bits .xor .u32 t138 t139) ((rd x3_2 (ji26)) / 1024))+(rd x3_2 (wrap64 (x5_2 - 7)))) % 4294967296)+(Go.bits .xor .u32 (Go.bits .xor .u32 t136 t137) ((rd x3_2 (ji23)) / 8))) % 4294967296)+(rd x3_2 (wrap64 (x5_2 - 16)))) % 4294967296]) (wrap64 (x5_2+1))) else (none)) else (none)) else (none)) else (none)) else (none)))))) else (none)) else (none))=some r:=by first|(rw [hji26] at H;exact H)|(simp only [hji26] at H ⊢;exact H)
         have hji26w:(IntKind.i64.wrap (x5_2 - 2))=ji26:=(i64_w _).trans hji26
         by_cases c27:0≤(ji26)
         ·
          rw [if_pos c27] at H
          have c27b0:decide (0≤(ji26))=true:=decide_eq_true c27
          clear c27
          by_cases c28:(ji26) < (x3_2.length:Int)
          ·
           rw [if_pos c28] at H
           have c28b0:decide ((ji26) < (x3_2.length:Int))=true:=decide_eq_true c28
           clear c28
           replace H:=Option.bind_eq_some_iff.mp H
           obtain ⟨t136,A290,H⟩:=H
           replace H:((mosaicref01_rotr.f (rd x3_2 (ji23)) 18).bind fun t137=>((mosaicref01_rotr.f (rd x3_2 (ji26)) 17).bind fun t138=>((mosaicref01_rotr.f (rd x3_2 (ji26)) 19).bind fun t139=>(if 0≤(wrap64 (x5_2 - 7)) then (if (wrap64 (x5_2 - 7)) < (x3_2.length:Int) then (if 0≤(wrap64 (x5_2 - 16)) then (if (wrap64 (x5_2 - 16)) < (x3_2.length:Int) then (if x3_2.length < 35184372088832 then (mosaicref01_Words.l1 k2 (x3_2 ++ [((((((Go.bits .xor .u32 (Go.bits .xor .u32 t138 t139) ((rd x3_2 (ji26)) / 1024))+(rd x3_2 (wrap64 (x5_2 - 7)))) % 4294967296)+(Go.bits .xor .u32 (Go.bits .xor .u32 t136 t137) ((rd x3_2 (ji23)) / 8))) % 4294967296)+(rd x3_2 (wrap64 (x5_2 - 16)))) % 4294967296]) (wrap64 (x5_2+1))) else (none)) else (none)) else (none)) else (none)) else (none)))))=some r:=H
           have A29:=Aside0.mk A290
           clear A290
           replace H:=Option.bind_eq_some_iff.mp H
           obtain ⟨t137,A300,H⟩:=H
           replace H:((mosaicref01_rotr.f (rd x3_2 (ji26)) 17).bind fun t138=>((mosaicref01_rotr.f (rd x3_2 (ji26)) 19).bind fun t139=>(if 0≤(wrap64 (x5_2 - 7)) then (if (wrap64 (x5_2 - 7)) < (x3_2.length:Int) then (if 0≤(wrap64 (x5_2 - 16)) then (if (wrap64 (x5_2 - 16)) < (x3_2.length:Int) then (if x3_2.length < 35184372088832 then (mosaicref01_Words.l1 k2 (x3_2 ++ [((((((Go.bits .xor .u32 (Go.bits .xor .u32 t138 t139) ((rd x3_2 (ji26)) / 1024))+(rd x3_2 (wrap64 (x5_2 - 7)))) % 4294967296)+(Go.bits .xor .u32 (Go.bits .xor .u32 t136 t137) ((rd x3_2 (ji23)) / 8))) % 4294967296)+(rd x3_2 (wrap64 (x5_2 - 16)))) % 4294967296]) (wrap64 (x5_2+1))) else (none)) else (none)) else (none)) else (none)) else (none))))=some r:=H
           have A30:=Aside0.mk A300
           clear A300
           replace H:=Option.bind_eq_some_iff.mp H
           obtain ⟨t138,A310,H⟩:=H
           replace H:((mosaicref01_rotr.f (rd x3_2 (ji26)) 19).bind fun t139=>(if 0≤(wrap64 (x5_2 - 7)) then (if (wrap64 (x5_2 - 7)) < (x3_2.length:Int) then (if 0≤(wrap64 (x5_2 - 16)) then (if (wrap64 (x5_2 - 16)) < (x3_2.length:Int) then (if x3_2.length < 35184372088832 then (mosaicref01_Words.l1 k2 (x3_2 ++ [((((((Go.bits .xor .u32 (Go.bits .xor .u32 t138 t139) ((rd x3_2 (ji26)) / 1024))+(rd x3_2 (wrap64 (x5_2 - 7)))) % 4294967296)+(Go.bits .xor .u32 (Go.bits .xor .u32 t136 t137) ((rd x3_2 (ji23)) / 8))) % 4294967296)+(rd x3_2 (wrap64 (x5_2 - 16)))) % 4294967296]) (wrap64 (x5_2+1))) else (none)) else (none)) else (none)) else (none)) else (none)))=some r:=H
           have A31:=Aside0.mk A310
           clear A310
           replace H:=Option.bind_eq_some_iff.mp H
           obtain ⟨t139,A320,H⟩:=H
           replace H:(if 0≤(wrap64 (x5_2 - 7)) then (if (wrap64 (x5_2 - 7)) < (x3_2.length:Int) then (if 0≤(wrap64 (x5_2 - 16)) then (if (wrap64 (x5_2 - 16)) < (x3_2.length:Int) then (if x3_2.length < 35184372088832 then (mosaicref01_Words.l1 k2 (x3_2 ++ [((((((Go.bits .xor .u32 (Go.bits .xor .u32 t138 t139) ((rd x3_2 (ji26)) / 1024))+(rd x3_2 (wrap64 (x5_2 - 7)))) % 4294967296)+(Go.bits .xor .u32 (Go.bits .xor .u32 t136 t137) ((rd x3_2 (ji23)) / 8))) % 4294967296)+(rd x3_2 (wrap64 (x5_2 - 16)))) % 4294967296]) (wrap64 (x5_2+1))) else (none)) else (none)) else (none)) else (none)) else (none))=some r:=H
           have A32:=Aside0.mk A320
           clear A320
           obtain ⟨ji33,hji33⟩:∃ j_:Int,(wrap64 (x5_2 - 7))=j_:=⟨_,rfl⟩
           replace H:(if 0≤(ji33) then (if (ji33) < (x3_2.length:Int) then (if 0≤(wrap64 (x5_2 - 16)) then (if (wrap64 (x5_2 - 16)) < (x3_2.length:Int) then (if x3_2.length < 35184372088832 then (mosaicref01_Words.l1 k2 (x3_2 ++ [((((((Go.bits .xor .u32 (Go.bits .xor .u32 t138 t139) ((rd x3_2 (ji26)) / 1024))+(rd x3_2 (ji33))) % 4294967296)+(Go.bits .xor .u32 (Go.bits .xor .u32 t136 t137) ((rd x3_2 (ji23)) / 8))) % 4294967296)+(rd x3_2 (wrap64 (x5_2 - 16)))) % 4294967296]) (wrap64 (x5_2+1))) else (none)) else (none)) else (none)) else (none)) else (none))=some r:=by first|(rw [hji33] at H;exact H)|(simp only [hji33] at H ⊢;exact H)
           (try rw [hji33] at A29)
           (try rw [hji33] at A30)
           (try rw [hji33] at A31)
           (try rw [hji33] at A32)
           have hji33w:(IntKind.i64.wrap (x5_2 - 7))=ji33:=(i64_w _).trans hji33
           by_cases c34:0≤(ji33)
           ·
            rw [if_pos c34] at H
            have c34b0:decide (0≤(ji33))=true:=decide_eq_true c34
            clear c34
            by_cases c35:(ji33) < (x3_2.length:Int)
            ·
             rw [if_pos c35] at H
             have c35b0:decide ((ji33) < (x3_2.length:Int))=true:=decide_eq_true c35
             clear c35
             obtain ⟨ji36,hji36⟩:∃ j_:Int,(wrap64 (x5_2 - 16))=j_:=⟨_,rfl⟩
             replace H:(if 0≤(ji36) then (if (ji36) < (x3_2.length:Int) then (if x3_2.length < 35184372088832 then (mosaicref01_Words.l1 k2 (x3_2 ++ [((((((Go.bits .xor .u32 (Go.bits .xor .u32 t138 t139) ((rd x3_2 (ji26)) / 1024))+(rd x3_2 (ji33))) % 4294967296)+(Go.bits .xor .u32 (Go.bits .xor .u32 t136 t137) ((rd x3_2 (ji23)) / 8))) % 4294967296)+(rd x3_2 (ji36))) % 4294967296]) (wrap64 (x5_2+1))) else (none)) else (none)) else (none))=some r:=by first|(rw [hji36] at H;exact H)|(simp only [hji36] at H ⊢;exact H)
             (try rw [hji36] at A29)
             (try rw [hji36] at A30)
             (try rw [hji36] at A31)
             (try rw [hji36] at A32)
             have hji36w:(IntKind.i64.wrap (x5_2 - 16))=ji36:=(i64_w _).trans hji36
             by_cases c37:0≤(ji36)
             ·
              rw [if_pos c37] at H
              have c37b0:decide (0≤(ji36))=true:=decide_eq_true c37
              clear c37
              by_cases c38:(ji36) < (x3_2.length:Int)
              ·
               rw [if_pos c38] at H
               have c38b0:decide ((ji36) < (x3_2.length:Int))=true:=decide_eq_true c38
               clear c38
               by_cases c39:x3_2.length < 35184372088832
               ·
                rw [if_pos c39] at H
                have LMc39:=Aside0.mk c39
                clear c39
                obtain ⟨y142,hy142⟩:∃ y_:List Int,y_=(x3_2 ++ [((((((Go.bits .xor .u32 (Go.bits .xor .u32 t138 t139) ((rd x3_2 (ji26)) / 1024))+(rd x3_2 (ji33))) % 4294967296)+(Go.bits .xor .u32 (Go.bits .xor .u32 t136 t137) ((rd x3_2 (ji23)) / 8))) % 4294967296)+(rd x3_2 (ji36))) % 4294967296]):=⟨_,rfl⟩
                replace H:(mosaicref01_Words.l1 k2 y142 (wrap64 (x5_2+1)))=some r:=by first|(rw [hy142];with_reducible exact H)|(have H2_:=(Option.bind_some _ _).symm.trans H;rw [hy142];with_reducible exact H2_)|(have H2_:=(Option.bind_some _ _).symm.trans H;with_reducible exact H2_)|with_reducible exact H|(rw [hy142];exact H)|exact H
                have Ny142:=Aside0.mk hy142
                clear hy142
                have H':=Aside0.mk H
                clear H
                obtain ⟨Ao40,co40,eo40⟩:=Kd.R_slice HO_3.out
                subst eo40
                have p134:0≤((ji23):Int):=of_decide_eq_true (by first|(with_reducible assumption)|assumption)
                have q134:(ji23) < (x3_2.length:Int):=of_decide_eq_true (by first|(with_reducible assumption)|assumption)
                obtain ⟨ad134,e134,hx134_0⟩:=Kd.at_int (Kd.R_reads' HO_3.out).2.2 (ji23) p134 q134
                cases e134
                replace p134:=eq_true p134
                replace q134:=eq_true q134
                have p135:0≤((ji26):Int):=of_decide_eq_true (by first|(with_reducible assumption)|assumption)
                have q135:(ji26) < (x3_2.length:Int):=of_decide_eq_true (by first|(with_reducible assumption)|assumption)
                obtain ⟨ad135,e135,hx135_0⟩:=Kd.at_int (Kd.R_reads' HO_3.out).2.2 (ji26) p135 q135
                obtain rfl:ad134=ad135:=(by injection e135)
                replace p135:=eq_true p135
                replace q135:=eq_true q135
                try go_wp2_with (first|((with_reducible refine gate_callee (f:=86) rfl ?_);refine goesL_ (some 61) rfl rfl Try.func86 (by kernel_rfl) rfl #[.int .u32 (rd x3_2 (ji23)),.int .u64 7] rfl (by (try simp only [List.map_toArray,List.map_cons,List.map_nil]);first|done|(simp only [hji23];rfl)|rfl|(simp only [List.length_drop,List.length_take];rfl)) ?_;(with_reducible refine (mosaicref01_rotr.calls (rd x3_2 (ji23)) 7 t136 _ A29.out).mono ?_);rintro e w' ⟨rfl,⟨nd,rfl⟩⟩;refine ⟨_,rfl,?_⟩)|((with_reducible refine gate_callee (f:=86) rfl ?_);refine goesL_ (some 63) rfl rfl Try.func86 (by kernel_rfl) rfl #[.int .u32 (rd x3_2 (ji23)),.int .u64 18] rfl (by (try simp only [List.map_toArray,List.map_cons,List.map_nil]);first|done|(simp only [hji23];rfl)|rfl|(simp only [List.length_drop,List.length_take];rfl)) ?_;(with_reducible refine (mosaicref01_rotr.calls (rd x3_2 (ji23)) 18 t137 _ A30.out).mono ?_);rintro e w' ⟨rfl,⟨nd,rfl⟩⟩;refine ⟨_,rfl,?_⟩)|((with_reducible refine gate_callee (f:=86) rfl ?_);refine goesL_ (some 69) rfl rfl Try.func86 (by kernel_rfl) rfl #[.int .u32 (rd x3_2 (ji26)),.int .u64 17] rfl (by (try simp only [List.map_toArray,List.map_cons,List.map_nil]);first|done|(simp only [hji26];rfl)|rfl|(simp only [List.length_drop,List.length_take];rfl)) ?_;(with_reducible refine (mosaicref01_rotr.calls (rd x3_2 (ji26)) 17 t138 _ A31.out).mono ?_);rintro e w' ⟨rfl,⟨nd,rfl⟩⟩;refine ⟨_,rfl,?_⟩)|((with_reducible refine gate_callee (f:=86) rfl ?_);refine goesL_ (some 71) rfl rfl Try.func86 (by kernel_rfl) rfl #[.int .u32 (rd x3_2 (ji26)),.int .u64 19] rfl (by (try simp only [List.map_toArray,List.map_cons,List.map_nil]);first|done|(simp only [hji26];rfl)|rfl|(simp only [List.length_drop,List.length_take];rfl)) ?_;(with_reducible refine (mosaicref01_rotr.calls (rd x3_2 (ji26)) 19 t139 _ A32.out).mono ?_);rintro e w' ⟨rfl,⟨nd,rfl⟩⟩;refine ⟨_,rfl,?_⟩))
                (try (rw [drewN_self wr];generalize hq_:World.drewN wr _=wr;have n0_:Aside0 (Kd.R (Kd.int .u32) 27 wr w.heap.size (fun _=>True) (.slice (some ad134) x3_2.length co40) x3_2):=⟨by rw [← hq_];exact (by (with_reducible repeat (first|apply Kd.R_alloc|apply Kd.R_drewN|apply Kd.R_drew));exact HO_3.out)⟩;have n1_:Aside0 (Below w.heap.size w wr):=⟨by rw [← hq_];exact (by repeat (first|(with_reducible first|exact HB.out|apply below_alloc|apply pw_below_drewN|apply below_drew1)|exact HB.out))⟩;clear HO_3 HB hq_;have HO_3:=n0_;have HB:=n1_;clear n0_ n1_))
                have n0_:=Aside0.mk (Kd.R_drew HO_3.out)
                have n1_:=Aside0.mk (below_drew1 HB.out)
                clear HO_3
                clear HB
                have HO_3:=n0_
                have HB:=n1_
                clear n0_ n1_
                have p140:0≤((ji33):Int):=of_decide_eq_true (by first|(with_reducible assumption)|assumption)
                have q140:(ji33) < (x3_2.length:Int):=of_decide_eq_true (by first|(with_reducible assumption)|assumption)
                obtain ⟨ad140,e140,hx140_0⟩:=Kd.at_int (Kd.R_reads' HO_3.out).2.2 (ji33) p140 q140
                obtain rfl:ad134=ad140:=(by injection e140)
                replace p140:=eq_true p140
                replace q140:=eq_true q140
                have p141:0≤((ji36):Int):=of_decide_eq_true (by first|(with_reducible assumption)|assumption)
                have q141:(ji36) < (x3_2.length:Int):=of_decide_eq_true (by first|(with_reducible assumption)|assumption)
                obtain ⟨ad141,e141,hx141_0⟩:=Kd.at_int (Kd.R_reads' HO_3.out).2.2 (ji36) p141 q141
                obtain rfl:ad134=ad141:=(by injection e141)
                replace p141:=eq_true p141
                replace q141:=eq_true q141
                refine start_ (n:=19) (S:=fun w'=>w'.cell? (ad134.add ((ji33)).toNat)=some (.int .u32 (rd x3_2 (ji33)))∧w'.cell? (ad134.add ((ji36)).toNat)=some (.int .u32 (rd x3_2 (ji36)))) (ds:=[16,17]) #[false,false,false,false,false,false,false,false,false,false,false,false,false,false,false,false,false,false,false] (by kernel_rfl) rfl rfl ⟨hx140_0,hx141_0⟩ (fun hHeld=>?_);refine with_tabW mosaicref01_Words.tab13 mosaicref01_Words.bits13 (fun HT_ HW_=>?_)
                generalize wr.drew=w41 at HO_3 HB hx140_0 hx141_0 hHeld ⊢
                refine pure_ (i:=0) (N:=some 76) (v:=?_) (a':=?_) #[true,false,false,false,false,false,false,false,false,false,false,false,false,false,false,false,false,false,false] rfl rfl (any_of HT_.out (by kernel_rfl)) (fun _ _ _ h=>h) (Or.inl ⟨by rfl,?_⟩) ?_ ?_
                rotate_left
                ·
                 intro w'
                 go_simp
                 with_reducible rfl
                rotate_left
                ·
                 simp only [Act.put,List.setIfInBounds_toArray,List.set_cons_zero,List.set_cons_succ,i64_w,i32_w]
                 rfl
                refine pure_ (i:=1) (N:=some 77) (v:=?_) (a':=?_) #[true,true,false,false,false,false,false,false,false,false,false,false,false,false,false,false,false,false,false] rfl rfl (any_of HT_.out (by kernel_rfl)) (fun _ _ _ h=>h) (Or.inl ⟨by rfl,?_⟩) ?_ ?_
                rotate_left
                ·
                 intro w'
                 go_simp
                 with_reducible rfl
                rotate_left
                ·
                 simp only [Act.put,List.setIfInBounds_toArray,List.set_cons_zero,List.set_cons_succ,i64_w,i32_w]
                 rfl
                refine pure_ (i:=2) (N:=some 78) (v:=?_) (a':=?_) #[true,true,true,false,false,false,false,false,false,false,false,false,false,false,false,false,false,false,false] rfl rfl (any_of HT_.out (by kernel_rfl)) (fun _ _ _ h=>h) (Or.inl ⟨by rfl,?_⟩) ?_ ?_
                rotate_left
                ·
                 intro w'
                 go_simp
                 with_reducible rfl
                rotate_left
                ·
                 simp only [Act.put,List.setIfInBounds_toArray,List.set_cons_zero,List.set_cons_succ,i64_w,i32_w]
                 rfl
                refine pure_ (i:=3) (N:=some 79) (v:=?_) (a':=?_) #[true,true,true,true,false,false,false,false,false,false,false,false,false,false,false,false,false,false,false] rfl rfl (any_of HT_.out (by kernel_rfl)) (fun _ _ _ h=>h) (Or.inl ⟨by rfl,?_⟩) ?_ ?_
                rotate_left
                ·
                 intro w'
                 go_simp
                 with_reducible rfl
                rotate_left
                ·
                 simp only [Act.put,List.setIfInBounds_toArray,List.set_cons_zero,List.set_cons_succ,i64_w,i32_w]
                 rfl
                refine pure_ (i:=4) (N:=some 80) (v:=?_) (a':=?_) #[true,true,true,true,true,false,false,false,false,false,false,false,false,false,false,false,false,false,false] rfl rfl (any_of HT_.out (by kernel_rfl)) (fun _ _ _ h=>h) (Or.inl ⟨by rfl,?_⟩) ?_ ?_
                rotate_left
                ·
                 intro w'
                 go_simp
                 with_reducible rfl
                rotate_left
                ·
                 simp only [Act.put,List.setIfInBounds_toArray,List.set_cons_zero,List.set_cons_succ,i64_w,i32_w]
                 rfl
                refine pure_ (i:=5) (N:=some 81) (v:=?_) (a':=?_) #[true,true,true,true,true,true,false,false,false,false,false,false,false,false,false,false,false,false,false] rfl rfl (any_of HT_.out (by kernel_rfl)) (fun _ _ _ h=>h) (Or.inl ⟨by rfl,?_⟩) ?_ ?_
                rotate_left
                ·
                 intro w'
                 go_simp
                 with_reducible rfl
                rotate_left
                ·
                 simp only [Act.put,List.setIfInBounds_toArray,List.set_cons_zero,List.set_cons_succ,i64_w,i32_w]
                 rfl
                refine pure_ (i:=8) (N:=some 84) (v:=?_) (a':=?_) #[true,true,true,true,true,true,false,false,true,false,false,false,false,false,false,false,false,false,false] rfl rfl (any_of HT_.out (by kernel_rfl)) (fun _ _ _ h=>h) (Or.inl ⟨by rfl,?_⟩) ?_ ?_
                rotate_left
                ·
                 intro w'
                 go_simp
                 with_reducible rfl
                rotate_left
                ·
                 simp only [Act.put,List.setIfInBounds_toArray,List.set_cons_zero,List.set_cons_succ,i64_w,i32_w]
                 rfl
                refine pure_ (i:=10) (N:=some 86) (v:=?_) (a':=?_) #[true,true,true,true,true,true,false,false,true,false,true,false,false,false,false,false,false,false,false] rfl rfl (any_of HT_.out (by kernel_rfl)) (fun _ _ _ h=>h) (Or.inl ⟨by rfl,?_⟩) ?_ ?_
                rotate_left
                ·
                 intro w'
                 go_simp
                 with_reducible rfl
                rotate_left
                ·
                 simp only [Act.put,List.setIfInBounds_toArray,List.set_cons_zero,List.set_cons_succ,i64_w,i32_w]
                 rfl
                refine pure_ (i:=11) (N:=some 87) (v:=?_) (a':=?_) #[true,true,true,true,true,true,false,false,true,false,true,true,false,false,false,false,false,false,false] rfl rfl (any_of HT_.out (by kernel_rfl)) (fun _ _ _ h=>h) (Or.inl ⟨by rfl,?_⟩) ?_ ?_
                rotate_left
                ·
                 intro w'
                 go_simp
                 with_reducible rfl
                rotate_left
                ·
                 simp only [Act.put,List.setIfInBounds_toArray,List.set_cons_zero,List.set_cons_succ,i64_w,i32_w]
                 rfl
                refine pure_ (i:=12) (N:=some 88) (v:=?_) (a':=?_) #[true,true,true,true,true,true,false,false,true,false,true,true,true,false,false,false,false,false,false] rfl rfl (any_of HT_.out (by kernel_rfl)) (fun _ _ _ h=>h) (Or.inl ⟨by rfl,?_⟩) ?_ ?_
                rotate_left
                ·
                 intro w'
                 go_simp
                 with_reducible rfl
                rotate_left
                ·
                 simp only [Act.put,List.setIfInBounds_toArray,List.set_cons_zero,List.set_cons_succ,i64_w,i32_w]
                 rfl
                refine pure_ (i:=13) (N:=some 89) (v:=?_) (a':=?_) #[true,true,true,true,true,true,false,false,true,false,true,true,true,true,false,false,false,false,false] rfl rfl (any_of HT_.out (by kernel_rfl)) (fun _ _ _ h=>h) (Or.inl ⟨by rfl,?_⟩) ?_ ?_
                rotate_left
                ·
                 intro w'
                 go_simp
                 with_reducible rfl
                rotate_left
                ·
                 simp only [Act.put,List.setIfInBounds_toArray,List.set_cons_zero,List.set_cons_succ,i64_w,i32_w]
                 rfl
                refine take_ (i:=6) (N:=some 82) (v:=?_) (a':=?_) #[true,true,true,true,true,true,true,false,true,false,true,true,true,true,false,false,false,false,false] rfl rfl (take_ofW HT_.out HW_.out (by kernel_rfl)) (fun _ _ _ h=>h) (Or.inl ⟨by rfl,?_⟩) hHeld ?_ ?_
                rotate_left
                ·
                 rintro w' ⟨s0,s1⟩
                 go_simp
                 with_reducible rfl
                rotate_left
                ·
                 simp only [Act.put,List.setIfInBounds_toArray,List.set_cons_zero,List.set_cons_succ,i64_w,i32_w]
                 rfl
                refine pure_ (i:=7) (N:=some 83) (v:=?_) (a':=?_) #[true,true,true,true,true,true,true,true,true,false,true,true,true,true,false,false,false,false,false] rfl rfl (any_of HT_.out (by kernel_rfl)) (fun _ _ _ h=>h) (Or.inl ⟨by rfl,?_⟩) ?_ ?_
                rotate_left
                ·
                 intro w'
                 go_simp
                 with_reducible rfl
                rotate_left
                ·
                 simp only [Act.put,List.setIfInBounds_toArray,List.set_cons_zero,List.set_cons_succ,i64_w,i32_w]
                 rfl
                refine pure_ (i:=9) (N:=some 85) (v:=?_) (a':=?_) #[true,true,true,true,true,true,true,true,true,true,true,true,true,true,false,false,false,false,false] rfl rfl (any_of HT_.out (by kernel_rfl)) (fun _ _ _ h=>h) (Or.inl ⟨by rfl,?_⟩) ?_ ?_
                rotate_left
                ·
                 intro w'
                 go_simp
                 with_reducible rfl
                rotate_left
                ·
                 simp only [Act.put,List.setIfInBounds_toArray,List.set_cons_zero,List.set_cons_succ,i64_w,i32_w]
                 rfl
                refine take_ (i:=14) (N:=some 90) (v:=?_) (a':=?_) #[true,true,true,true,true,true,true,true,true,true,true,true,true,true,true,false,false,false,false] rfl rfl (take_ofW HT_.out HW_.out (by kernel_rfl)) (fun _ _ _ h=>h) (Or.inl ⟨by rfl,?_⟩) hHeld ?_ ?_
                rotate_left
                ·
                 rintro w' ⟨s0,s1⟩
                 go_simp
                 with_reducible rfl
                rotate_left
                ·
                 simp only [Act.put,List.setIfInBounds_toArray,List.set_cons_zero,List.set_cons_succ,i64_w,i32_w]
                 rfl
                refine pure_ (i:=15) (N:=some 91) (v:=?_) (a':=?_) #[true,true,true,true,true,true,true,true,true,true,true,true,true,true,true,true,false,false,false] rfl rfl (any_of HT_.out (by kernel_rfl)) (fun _ _ _ h=>h) (Or.inl ⟨by rfl,?_⟩) ?_ ?_
                rotate_left
                ·
                 intro w'
                 go_simp
                 with_reducible rfl
                rotate_left
                ·
                 simp only [Act.put,List.setIfInBounds_toArray,List.set_cons_zero,List.set_cons_succ,i64_w,i32_w]
                 rfl
                refine last_ (i:=16) (N:=some 92) #[true,true,true,true,true,true,true,true,true,true,true,true,true,true,true,true,true,false,false] rfl rfl (one_of HT_.out (by kernel_rfl)) (by decide) (fun K hK=>?_)
                refine value_ (w1:=?_) (v:=?_) (by rfl) rfl ?_ ?_
                rotate_left 2
                ·
                 go_simp
                 constructor
                 ·
                  rfl
                 ·
                  rfl
                refine hK.out _ _ ?_
                clear hK K
                refine norm_ (a':=?_) ?_ ?_
                rotate_left
                ·
                 show Act.put _ (some 92) _=_
                 simp only [Act.put,List.setIfInBounds_toArray,List.set_cons_zero,List.set_cons_succ,i64_w,i32_w]
                 rfl
                refine last_ (i:=17) (N:=some 93) #[true,true,true,true,true,true,true,true,true,true,true,true,true,true,true,true,true,true,false] rfl rfl (one_of HT_.out (by kernel_rfl)) (by decide) (fun K hK=>?_)
                refine Kd.R_append_step (Kd.int .u32) (w0:=w) w.heap.size (by rfl) (.tmp 76) (.tmp 92) 33 27 (.int .u32 0) 4 rfl Try.underlying33 info27 rfl (by decide) (by omega) (.slice (some ad134) x3_2.length co40) x3_2 (((((((Go.bits .xor .u32 (Go.bits .xor .u32 t138 t139) ((rd x3_2 (ji26)) / 1024))+(rd x3_2 (ji33))) % 4294967296)+(Go.bits .xor .u32 (Go.bits .xor .u32 t136 t137) ((rd x3_2 (ji23)) / 8))) % 4294967296)+(rd x3_2 (ji36))) % 4294967296) [.int .u32 (((((((Go.bits .xor .u32 (Go.bits .xor .u32 t138 t139) ((rd x3_2 (ji26)) / 1024))+(rd x3_2 (ji33))) % 4294967296)+(Go.bits .xor .u32 (Go.bits .xor .u32 t136 t137) ((rd x3_2 (ji23)) / 8))) % 4294967296)+(rd x3_2 (ji36))) % 4294967296)] (fun _=>True) (fun _=>False) rfl rfl ?aP (fun _ hk=>hk.elim) ?aF ?aO ?aB ?aS ?aL ?_
                (case aP=>exact rfl)
                (case aB=>exact (by repeat (first|(with_reducible first|exact HB.out|apply below_alloc|apply pw_below_drewN|apply below_drew1)|exact HB.out)))
                (case aF=>exact (fun _ _=>trivial))
                (case aO=>exact (by (with_reducible repeat (first|apply Kd.R_alloc|apply Kd.R_drewN|apply Kd.R_drew));exact HO_3.out))
                (case aS=>exact (below_size (by repeat (first|(with_reducible first|exact HB.out|apply below_alloc|apply pw_below_drewN|apply below_drew1)|exact HB.out))))
                (case aL=>have:=LMc39.out;omega)
                intro v143 w42 ho hb hg hat
                rw [← Ny142.out] at ho
                have n0_:=Aside0.mk (hb)
                have n1_:=Aside0.mk (ho)
                clear HB
                clear HO_3
                have HB:=n0_
                have HO144:=n1_
                clear n0_ n1_
                clear ho hb hg hat
                refine hK.out _ _ ?_
                clear hK K
                refine norm_ (a':=?_) ?_ ?_
                rotate_left
                ·
                 show Act.put _ (some 93) _=_
                 simp only [Act.put,List.setIfInBounds_toArray,List.set_cons_zero,List.set_cons_succ,i64_w,i32_w]
                 rfl
                refine pure_ (i:=18) (N:=some 3) (v:=?_) (a':=?_) #[true,true,true,true,true,true,true,true,true,true,true,true,true,true,true,true,true,true,true] rfl rfl (any_of HT_.out (by kernel_rfl)) (fun _ _ _ h=>h) (Or.inl ⟨by rfl,?_⟩) ?_ ?_
                rotate_left
                ·
                 intro w'
                 go_simp
                 with_reducible rfl
                rotate_left
                ·
                 simp only [Act.put,List.setIfInBounds_toArray,List.set_cons_zero,List.set_cons_succ,i64_w,i32_w]
                 rfl
                refine done_ (done_of HT_.out (by kernel_rfl)) ?_
                try go_wp2
                go_roundg k2
                case measure=>have:=HK1.out;have:=HK2.out;omega
                case rel=>exact ⟨(y142),(wrap64 (x5_2+1)),(by first|rfl|(simp;done)|(simp [*];done)),H',⟨by have:=HK1.out;have:=HK2.out;omega⟩,⟨by (with_reducible repeat (first|apply Kd.R_alloc|apply Kd.R_drewN|apply Kd.R_drew));exact HO144.out⟩,⟨by repeat (first|(with_reducible first|exact HB.out|apply below_alloc|apply pw_below_drewN|apply below_drew1)|exact HB.out)⟩⟩
               ·
                rw [if_neg c39] at H
                exact absurd H (by simp)
              ·
               rw [if_neg c38] at H
               exact absurd H (by simp)
             ·
              rw [if_neg c37] at H
              exact absurd H (by simp)
            ·
             rw [if_neg c35] at H
             exact absurd H (by simp)
           ·
            rw [if_neg c34] at H
            exact absurd H (by simp)
          ·
           rw [if_neg c28] at H
           exact absurd H (by simp)
         ·
          rw [if_neg c27] at H
          exact absurd H (by simp)
        ·
         rw [if_neg c25] at H
         exact absurd H (by simp)
       ·
        rw [if_neg c24] at H
        exact absurd H (by simp)
      ·
       rw [if_neg c22] at H
       have c22b0:decide (x5_2 < 64)=false:=decide_eq_false c22
       clear c22
       obtain rfl:=Option.some.inj H
       go_wp2
       go_ret
       exact ⟨_,by first|rfl|(simp [errW_none,errW_some] <;> rfl)|(simp [*,errW_none,errW_some] <;> rfl),by (with_reducible repeat (first|apply Kd.R_alloc|apply Kd.R_drewN|apply Kd.R_drew));exact HO_3.out,by repeat (first|(with_reducible first|exact HB.out|apply below_alloc|apply pw_below_drewN|apply below_drew1)|exact HB.out)⟩
end Go.Proofs.Ytelcaepenfjloaa.Print
