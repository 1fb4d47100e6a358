/- The proof of the statement MerkleTexts of the seat, part 6 of 6: the functions that it reaches, as plain functions, with the walks that show it, and what they come to; the last part ends in the row. No condition beyond the statement's own. -/
import Derived.Test.YtelcaepenfjloaaRows
import Derived.WalkKit
import Derived.ProofKit
import Derived.OpenShut
import Derived.ShutString
import Derived.ChangeOld
import Derived.Below
import Derived.SizedLaws
import Derived.Carry
import Derived.Test.YtelcaepenfjloaaBMerkleTexts1
import Derived.Test.YtelcaepenfjloaaBMerkleTexts3
import Derived.Test.YtelcaepenfjloaaBMerkleTexts4
import Derived.Test.YtelcaepenfjloaaBMerkleTexts5
/-! #### Pr81 -/
namespace Go.Proofs.Ytelcaepenfjloaa.Print
open Go.RowKit Go.Proofs.YtelcaepenfjloaaW.PrintWords Go.Proofs.YtelcaepenfjloaaW.PrintLast Go.Proofs.YtelcaepenfjloaaW.PrintMore
attribute [local go_sem] max2_int min2_int max_two min_two max_three min_three max_four min_four
set_option linter.unusedVariables false
set_option linter.unusedSimpArgs false
/-! ### merkle_Road: function 81 -/
def merkle_Road.f (k:Nat) (a0:Int) (a1:Int) (a2:ByteArray) (l3:List ByteArray):Option (List ByteArray):=(merkle_Leaf.f a2).bind fun t661=>((merkle_folds.f a0 a1 t661 l3).bind fun t662=>(if t662=0 then (if 1+a2.size≤9223372036854775807 then ((some (([(⟨#[0]⟩:ByteArray) ++ a2]:List ByteArray):List ByteArray)).bind fun y663=>((merkle_Climb.f k a0 a1 t661 l3).bind fun t666=>(if y663.length+t666.length < 8796093022208 then (some (y663 ++ t666)) else (none)))) else (none)) else (some ([]:List ByteArray))))
theorem merkle_Road.mono:∀ a0 a1 a2 a3 k,LeO (merkle_Road.f k a0 a1 a2 a3) (merkle_Road.f (k+1) a0 a1 a2 a3):=by
 intro a0 a1 a2 a3 k
 unfold merkle_Road.f
 repeat' first
   | (with_reducible exact merkle_Climb.mono _ _ _ _ _)
   | (with_reducible exact LeO.refl _)
   | (with_reducible exact LeO.none _)
   | (with_reducible refine LeO.ite ?_ ?_)
   | (with_reducible refine LeO.bind ?_ (fun _=>?_))
   | exact merkle_Climb.mono _ _ _ _ _
   | exact LeO.none _
   | refine LeO.ite ?_ ?_
   | refine LeO.bind ?_ (fun _=>?_)
set_option maxHeartbeats 8000000 in
set_option maxRecDepth 100000 in
theorem merkle_Road.calls (k:Nat) (a0:Int) (a1:Int) (a2:ByteArray) (A3:Option Addr) (c3:Nat) (l3:List ByteArray) (r:List ByteArray) (w:World) (hr3:Kd.C Kd.string w A3 l3.length l3) (hc3:l3.length≤c3) (h:merkle_Road.f k a0 a1 a2 l3=some r) :
  Calls Try.prog 81 #[.int .i64 a0,.int .i64 a1,.string a2,.slice A3 l3.length c3] w fun e w'=>∃ v0_:Value,e=.returned (v0_)∧Kd.R Kd.string 9 w' w.heap.size (fun _=>True) v0_ r∧Below w.heap.size w w':=by
 have HR3:=Aside0.mk hr3
 have HC3:=Aside0.mk hc3
 clear hr3 hc3
 have HB:=Aside0.mk (Below.refl w.heap.size w)
 have H:((merkle_Leaf.f a2).bind fun t661=>((merkle_folds.f a0 a1 t661 l3).bind fun t662=>(if t662=0 then (if 1+a2.size≤9223372036854775807 then ((some (([(⟨#[0]⟩:ByteArray) ++ a2]:List ByteArray):List ByteArray)).bind fun y663=>((merkle_Climb.f k a0 a1 t661 l3).bind fun t666=>(if y663.length+t666.length < 8796093022208 then (some (y663 ++ t666)) else (none)))) else (none)) else (some ([]:List ByteArray)))))=some r:=h
 clear h
 replace H:=Option.bind_eq_some_iff.mp H
 obtain ⟨t661,A50,H⟩:=H
 replace H:((merkle_folds.f a0 a1 t661 l3).bind fun t662=>(if t662=0 then (if 1+a2.size≤9223372036854775807 then ((some (([(⟨#[0]⟩:ByteArray) ++ a2]:List ByteArray):List ByteArray)).bind fun y663=>((merkle_Climb.f k a0 a1 t661 l3).bind fun t666=>(if y663.length+t666.length < 8796093022208 then (some (y663 ++ t666)) else (none)))) else (none)) else (some ([]:List ByteArray))))=some r:=H
 have A5:=Aside0.mk A50
 clear A50
 replace H:=Option.bind_eq_some_iff.mp H
 obtain ⟨t662,A60,H⟩:=H
 replace H:(if t662=0 then (if 1+a2.size≤9223372036854775807 then ((some (([(⟨#[0]⟩:ByteArray) ++ a2]:List ByteArray):List ByteArray)).bind fun y663=>((merkle_Climb.f k a0 a1 t661 l3).bind fun t666=>(if y663.length+t666.length < 8796093022208 then (some (y663 ++ t666)) else (none)))) else (none)) else (some ([]:List ByteArray)))=some r:=H
 have A6:=Aside0.mk A60
 clear A60
 by_cases c7:t662=0
 ·
  rw [if_pos c7] at H
  have c7b0:(t662 == 0)=true:=beq_iff_eq.mpr c7
  have c7b1:(t662 != 0)=false:=bne_eq_false_iff_eq.mpr c7
  clear c7
  by_cases c8:1+a2.size≤9223372036854775807
  ·
   rw [if_pos c8] at H
   have c8b0:=eq_true c8
   have c8b1:decide (1+a2.size≤9223372036854775807)=true:=decide_eq_true c8
   try have c8b2:(9223372036854775807 < 1+a2.size)=False:=eq_false (Nat.not_lt.2 c8)
   obtain ⟨y663,hy663⟩:∃ y_:List ByteArray,y_=(([(⟨#[0]⟩:ByteArray) ++ a2]:List ByteArray)):=⟨_,rfl⟩
   replace H:((merkle_Climb.f k a0 a1 t661 l3).bind fun t666=>(if y663.length+t666.length < 8796093022208 then (some (y663 ++ t666)) else (none)))=some r:=by first|(rw [hy663];with_reducible exact H)|(have H2_:=(Option.bind_some _ _).symm.trans H;rw [hy663];with_reducible exact H2_)|(have H2_:=(Option.bind_some _ _).symm.trans H;with_reducible exact H2_)|with_reducible exact H|(rw [hy663];exact H)|exact H
   have Ny663:=Aside0.mk hy663
   clear hy663
   replace H:=Option.bind_eq_some_iff.mp H
   obtain ⟨t666,A90,H⟩:=H
   replace H:(if y663.length+t666.length < 8796093022208 then (some (y663 ++ t666)) else (none))=some r:=H
   have A9:=Aside0.mk A90
   clear A90
   by_cases c10:y663.length+t666.length < 8796093022208
   ·
    rw [if_pos c10] at H
    have LMc10:=Aside0.mk c10
    clear c10
    obtain ⟨y669,hy669⟩:∃ y_:List ByteArray,y_=(y663 ++ t666):=⟨_,rfl⟩
    replace H:(some y669)=some r:=by first|(rw [hy669];with_reducible exact H)|(have H2_:=(Option.bind_some _ _).symm.trans H;rw [hy669];with_reducible exact H2_)|(have H2_:=(Option.bind_some _ _).symm.trans H;with_reducible exact H2_)|with_reducible exact H|(rw [hy669];exact H)|exact H
    have Ny669:=Aside0.mk hy669
    clear hy669
    obtain rfl:=Option.some.inj H
    go_enter Try.func81,Try.ntmps81
    go_wp2_with (first|((with_reducible refine gate_callee (f:=48) rfl ?_);refine goesL_ (some 11) rfl rfl Try.func48 (by kernel_rfl) rfl #[.string a2] rfl (by (try simp only [List.map_toArray,List.map_cons,List.map_nil]);first|done|rfl|(simp only [List.length_drop,List.length_take];rfl)) ?_;(with_reducible refine (merkle_Leaf.calls a2 t661 _ A5.out).mono ?_);rintro e w11 ⟨rfl,hb⟩;refine ⟨_,rfl,?_⟩;have n0_:=Aside0.mk (below_step (by repeat (first|(with_reducible first|exact HB.out|apply below_alloc|apply pw_below_drewN|apply below_drew1)|exact HB.out)) hb);clear HB;have HB:=n0_;clear n0_;(try clear hb);(try clear hb2);(try clear hk);(try clear hi))|((with_reducible refine gate_callee (f:=109) rfl ?_);refine goesL_ (some 16) rfl rfl Try.func109 (by kernel_rfl) rfl #[.int .i64 a0,.int .i64 a1,.string t661,.slice A3 l3.length c3] rfl (by (try simp only [List.map_toArray,List.map_cons,List.map_nil]);first|done|rfl|(simp only [List.length_drop,List.length_take];rfl)) ?_;(with_reducible refine (merkle_folds.calls a0 a1 t661 _ _ l3 t662 _ ?side1 ?side2 A6.out).mono ?_);(case side1=>repeat (first|exact (Kd.C_below HR3.out HB.out)|(with_reducible refine Kd.C_alloc ?_ _)|(with_reducible refine Kd.C_drewN ?_ _)|(with_reducible refine Kd.C_drew ?_)));(case side2=>exact HC3.out);rintro e w12 ⟨rfl,hb⟩;refine ⟨_,rfl,?_⟩;have n0_:=Aside0.mk (below_step (by repeat (first|(with_reducible first|exact HB.out|apply below_alloc|apply pw_below_drewN|apply below_drew1)|exact HB.out)) hb);clear HB;have HB:=n0_;clear n0_;(try clear hb);(try clear hb2);(try clear hk);(try clear hi))|((with_reducible refine gate_dst (N:=20) rfl ?_);refine Kd.R_lit Kd.string _ 9 ?hg (N:=20) ?hd (xs:=([(⟨#[0]⟩:ByteArray) ++ a2]:List ByteArray)) (inner:=[.string ((⟨#[0]⟩:ByteArray) ++ a2)]) (ok:=fun _=>True) (okp:=fun _=>True) ?hr ?hp (fun _ hk=>hk) trivial (Below.refl _ _) (Nat.le_refl _) (by simp) ?_;(case hd=>rfl);(case hg=>rfl);(case hr=>first|(go_simp;done)|(go_simp;rfl));(case hp=>exact (Reps.one (show Kd.M Kd.string _ _ _ ((⟨#[0]⟩:ByteArray) ++ a2) [.string ((⟨#[0]⟩:ByteArray) ++ a2)] from rfl) (Reps.none _ _)));intro v664 w13 ho14 hb hg_ hnew_;clear hg_ hnew_;(first|rw [← Ny663.out] at ho14|(simp only [Int.reduceToNat] at ho14;rw [← Ny663.out] at ho14));have n0_:=Aside0.mk (Kd.R_lower ho14 (below_size (by repeat (first|(with_reducible first|exact HB.out|apply below_alloc|apply pw_below_drewN|apply below_drew1)|exact HB.out))));have n1_:=Aside0.mk (below_step (by repeat (first|(with_reducible first|exact HB.out|apply below_alloc|apply pw_below_drewN|apply below_drew1)|exact HB.out)) hb);clear HB;have HO665:=n0_;have HB:=n1_;clear n0_ n1_;clear hb ho14)|((with_reducible refine gate_callee (f:=77) rfl ?_);refine goesL_ (some 25) rfl rfl Try.func77 (by kernel_rfl) rfl #[.int .i64 a0,.int .i64 a1,.string t661,.slice A3 l3.length c3] rfl (by (try simp only [List.map_toArray,List.map_cons,List.map_nil]);first|done|rfl|(simp only [List.length_drop,List.length_take];rfl)) ?_;(with_reducible refine (merkle_Climb.calls k a0 a1 t661 _ _ l3 t666 _ ?side1 ?side2 A9.out).mono ?_);(case side1=>repeat (first|exact (Kd.C_below HR3.out HB.out)|(with_reducible refine Kd.C_alloc ?_ _)|(with_reducible refine Kd.C_drewN ?_ _)|(with_reducible refine Kd.C_drew ?_)));(case side2=>exact HC3.out);rintro e w15 ⟨v667,rfl,ho0,hb⟩;refine ⟨_,rfl,?_⟩;have n0_:=Aside0.mk (Kd.R_elder' (by (with_reducible repeat (first|apply Kd.R_alloc|apply Kd.R_drewN|apply Kd.R_drew));exact HO665.out) (Kd.R_base ho0) hb);have n1_:=Aside0.mk (Kd.R_lower (Kd.R_new' ho0 (Kd.R_lt (by (with_reducible repeat (first|apply Kd.R_alloc|apply Kd.R_drewN|apply Kd.R_drew));exact HO665.out))) (below_size (by repeat (first|(with_reducible first|exact HB.out|apply below_alloc|apply pw_below_drewN|apply below_drew1)|exact HB.out))));have n2_:=Aside0.mk (below_step (by repeat (first|(with_reducible first|exact HB.out|apply below_alloc|apply pw_below_drewN|apply below_drew1)|exact HB.out)) hb);clear HO665;clear HB;have HO665:=n0_;have HO668:=n1_;have HB:=n2_;clear n0_ n1_ n2_;(try clear hb);(try clear hb2);(try clear hk);(try clear hi);(try clear ho0);obtain ⟨Ao17,co17,eo17⟩:=Kd.R_slice HO668.out;subst eo17)|((with_reducible refine gate_builtin (b:=.append) (xs:=#[.tmp 20,.tmp 25]) rfl ?_);at_builtin;refine Kd.R_append_rows Kd.string (w0:=w) w.heap.size rfl (.tmp 20) (.tmp 25) 39 9 (.string ⟨#[]⟩) 16 rfl Try.underlying39 info9 rfl (by decide) (by omega) v664 y663 t666 _ _ _ (fun k_=>some k_≠(.slice Ao17 t666.length co17:Value).ownBlock) (fun _=>False) rfl rfl ?aO ?aR (fun _ _ h=>h) (fun _ h=>h.elim) ?aF ?aB ?aS ?aL ?_;(case aR=>repeat (first|exact (Kd.R_reads' HO668.out).2.2|(with_reducible refine Kd.C_alloc ?_ _)|(with_reducible refine Kd.C_drewN ?_ _)|(with_reducible refine Kd.C_drew ?_)));(case aB=>exact (by repeat (first|(with_reducible first|exact HB.out|apply below_alloc|apply pw_below_drewN|apply below_drew1)|exact HB.out)));(case aF=>exact (fun k_ hk=>Kd.fresh' (Kd.R_lt (by (with_reducible repeat (first|apply Kd.R_alloc|apply Kd.R_drewN|apply Kd.R_drew));exact HO668.out)) k_ hk));(case aO=>exact (by (with_reducible repeat (first|apply Kd.R_alloc|apply Kd.R_drewN|apply Kd.R_drew));exact Kd.R_mono HO665.out (fun _ hk=>hk.2)));(case aS=>exact (below_size (by repeat (first|(with_reducible first|exact HB.out|apply below_alloc|apply pw_below_drewN|apply below_drew1)|exact HB.out))));(case aL=>have:=LMc10.out;omega);intro v670 w16 ho hb hg hat;rw [← Ny669.out] at ho;have n0_:=Aside0.mk (Kd.R_after (ok:=(fun _=>True)) (by (with_reducible repeat (first|apply Kd.R_alloc|apply Kd.R_drewN|apply Kd.R_drew));exact HO668.out) hg hat);have n1_:=Aside0.mk (hb);have n2_:=Aside0.mk (ho);clear HO668;clear HB;clear HO665;have HO668:=n0_;have HB:=n1_;have HO671:=n2_;clear n0_ n1_ n2_;clear ho hb hg hat))
    go_ret
    exact ⟨_,by first|rfl|(simp [errW_none,errW_some] <;> rfl)|(simp [*,errW_none,errW_some] <;> rfl),by (with_reducible repeat (first|apply Kd.R_alloc|apply Kd.R_drewN|apply Kd.R_drew));exact Kd.R_mono HO671.out (fun _ hk=>trivial),by repeat (first|(with_reducible first|exact HB.out|apply below_alloc|apply pw_below_drewN|apply below_drew1)|exact HB.out)⟩
   ·
    rw [if_neg c10] at H
    exact absurd H (by simp)
  ·
   rw [if_neg c8] at H
   exact absurd H (by simp)
 ·
  rw [if_neg c7] at H
  have c7b0:(t662 == 0)=false:=beq_eq_false_iff_ne.mpr c7
  have c7b1:(t662 != 0)=true:=bne_iff_ne.mpr c7
  obtain rfl:=Option.some.inj H
  go_enter Try.func81,Try.ntmps81
  go_wp2_with (first|((with_reducible refine gate_callee (f:=48) rfl ?_);refine goesL_ (some 11) rfl rfl Try.func48 (by kernel_rfl) rfl #[.string a2] rfl (by (try simp only [List.map_toArray,List.map_cons,List.map_nil]);first|done|rfl|(simp only [List.length_drop,List.length_take];rfl)) ?_;(with_reducible refine (merkle_Leaf.calls a2 t661 _ A5.out).mono ?_);rintro e w18 ⟨rfl,hb⟩;refine ⟨_,rfl,?_⟩;have n0_:=Aside0.mk (below_step (by repeat (first|(with_reducible first|exact HB.out|apply below_alloc|apply pw_below_drewN|apply below_drew1)|exact HB.out)) hb);clear HB;have HB:=n0_;clear n0_;(try clear hb);(try clear hb2);(try clear hk);(try clear hi))|((with_reducible refine gate_callee (f:=109) rfl ?_);refine goesL_ (some 16) rfl rfl Try.func109 (by kernel_rfl) rfl #[.int .i64 a0,.int .i64 a1,.string t661,.slice A3 l3.length c3] rfl (by (try simp only [List.map_toArray,List.map_cons,List.map_nil]);first|done|rfl|(simp only [List.length_drop,List.length_take];rfl)) ?_;(with_reducible refine (merkle_folds.calls a0 a1 t661 _ _ l3 t662 _ ?side1 ?side2 A6.out).mono ?_);(case side1=>repeat (first|exact (Kd.C_below HR3.out HB.out)|(with_reducible refine Kd.C_alloc ?_ _)|(with_reducible refine Kd.C_drewN ?_ _)|(with_reducible refine Kd.C_drew ?_)));(case side2=>exact HC3.out);rintro e w19 ⟨rfl,hb⟩;refine ⟨_,rfl,?_⟩;have n0_:=Aside0.mk (below_step (by repeat (first|(with_reducible first|exact HB.out|apply below_alloc|apply pw_below_drewN|apply below_drew1)|exact HB.out)) hb);clear HB;have HB:=n0_;clear n0_;(try clear hb);(try clear hb2);(try clear hk);(try clear hi)))
  go_ret
  exact ⟨_,by first|rfl|(simp [errW_none,errW_some] <;> rfl)|(simp [*,errW_none,errW_some] <;> rfl),by first|exact Kd.R_nil _ _ _ _ _|exact Kd.N_nil _ _ _ _ _|exact Kd.V_nil _ _ _ _ _|exact Kd.Q_nil _ _ _ _ _|exact Kd.S_nil _ _ _ _ _,by repeat (first|(with_reducible first|exact HB.out|apply below_alloc|apply pw_below_drewN|apply below_drew1)|exact HB.out)⟩
end Go.Proofs.Ytelcaepenfjloaa.Print
/-! #### Pr82 -/
namespace Go.Proofs.Ytelcaepenfjloaa.Print
open Go.RowKit Go.Proofs.YtelcaepenfjloaaW.PrintWords Go.Proofs.YtelcaepenfjloaaW.PrintLast Go.Proofs.YtelcaepenfjloaaW.PrintMore
attribute [local go_sem] max2_int min2_int max_two min_two max_three min_three max_four min_four
set_option linter.unusedVariables false
set_option linter.unusedSimpArgs false
/-! ### mosaicref03_Road: function 82 -/
def mosaicref03_Road.l0:Nat→List ByteArray→Int→ByteArray→List ByteArray→Option (List ByteArray)
 | 0,_,_,_,_=>none
 | k+1,x10,x12,x684000,x684001=>if x12 < (x684001.length:Int) then (if 0≤x12 then (if x10.length < 8796093022208 then (mosaicref03_Road.l0 k (x10 ++ [rdOf ByteArray.empty x684001 x12]) (wrap64 (x12+1)) x684000 x684001) else (none)) else (none)) else (some x10)
def mosaicref03_Road.f (k:Nat) (a0:Int) (a1:Int) (a2:ByteArray) (l3:List ByteArray):Option (List ByteArray):=(mosaicref03_LeafText.f a2).bind fun t672=>((mosaicref01_Sum.f k t672).bind fun t673=>((mosaicref03_folds.f k a0 a1 t673 l3).bind fun t674=>(if t674=0 then ((mosaicref03_LeafText.f a2).bind fun t675=>((mosaicref03_climb.f k a0 a1 t673 l3).bind fun bt679=>(mosaicref03_Road.l0 k (([t675]:List ByteArray)) 0 bt679.1 bt679.2))) else (some ([]:List ByteArray)))))
theorem mosaicref03_Road.mono_l:∀ k,(∀ y0 y1 y2 y3,LeO (mosaicref03_Road.l0 k y0 y1 y2 y3) (mosaicref03_Road.l0 (k+1) y0 y1 y2 y3))
 | 0=>fun _ _ _ _ r h=>by simp [mosaicref03_Road.l0] at h
 | k+1=>by
  have ih0:=mosaicref03_Road.mono_l k
  ·
   intro y0 y1 y2 y3
   unfold mosaicref03_Road.l0
   repeat' first
   | (with_reducible exact ih0 _ _ _ _)
   | (with_reducible exact mosaicref01_Sum.mono _ _)
   | (with_reducible exact mosaicref03_climb.mono _ _ _ _ _)
   | (with_reducible exact mosaicref03_folds.mono _ _ _ _ _)
   | (with_reducible exact LeO.refl _)
   | (with_reducible exact LeO.none _)
   | (with_reducible refine LeO.ite ?_ ?_)
   | (with_reducible refine LeO.bind ?_ (fun _=>?_))
   | exact ih0 _ _ _ _
   | exact mosaicref01_Sum.mono _ _
   | exact mosaicref03_climb.mono _ _ _ _ _
   | exact mosaicref03_folds.mono _ _ _ _ _
   | exact LeO.none _
   | refine LeO.ite ?_ ?_
   | refine LeO.bind ?_ (fun _=>?_)
theorem mosaicref03_Road.mono:∀ a0 a1 a2 a3 k,LeO (mosaicref03_Road.f k a0 a1 a2 a3) (mosaicref03_Road.f (k+1) a0 a1 a2 a3):=by
 intro a0 a1 a2 a3 k
 have ih0:=mosaicref03_Road.mono_l k
 unfold mosaicref03_Road.f
 repeat' first
   | (with_reducible exact ih0 _ _ _ _)
   | (with_reducible exact mosaicref01_Sum.mono _ _)
   | (with_reducible exact mosaicref03_climb.mono _ _ _ _ _)
   | (with_reducible exact mosaicref03_folds.mono _ _ _ _ _)
   | (with_reducible exact LeO.refl _)
   | (with_reducible exact LeO.none _)
   | (with_reducible refine LeO.ite ?_ ?_)
   | (with_reducible refine LeO.bind ?_ (fun _=>?_))
   | exact ih0 _ _ _ _
   | exact mosaicref01_Sum.mono _ _
   | exact mosaicref03_climb.mono _ _ _ _ _
   | exact mosaicref03_folds.mono _ _ _ _ _
   | exact LeO.none _
   | refine LeO.ite ?_ ?_
   | refine LeO.bind ?_ (fun _=>?_)
set_option maxHeartbeats 8000000 in
set_option maxRecDepth 100000 in
theorem mosaicref03_Road.calls (k:Nat) (a0:Int) (a1:Int) (a2:ByteArray) (A3:Option Addr) (c3:Nat) (l3:List ByteArray) (r:List ByteArray) (w:World) (hr3:Kd.C Kd.string w A3 l3.length l3) (hc3:l3.length≤c3) (h:mosaicref03_Road.f k a0 a1 a2 l3=some r) :
  Calls Try.prog 82 #[.int .i64 a0,.int .i64 a1,.string a2,.slice A3 l3.length c3] w fun e w'=>∃ v0_:Value,e=.returned (v0_)∧Kd.R Kd.string 9 w' w.heap.size (fun _=>True) v0_ r∧Below w.heap.size w w':=by
 have hu142:=Try.underlying142
 have HR3:=Aside0.mk hr3
 have HC3:=Aside0.mk hc3
 clear hr3 hc3
 have HB:=Aside0.mk (Below.refl w.heap.size w)
 have H:((mosaicref03_LeafText.f a2).bind fun t672=>((mosaicref01_Sum.f k t672).bind fun t673=>((mosaicref03_folds.f k a0 a1 t673 l3).bind fun t674=>(if t674=0 then ((mosaicref03_LeafText.f a2).bind fun t675=>((mosaicref03_climb.f k a0 a1 t673 l3).bind fun bt679=>(mosaicref03_Road.l0 k (([t675]:List ByteArray)) 0 bt679.1 bt679.2))) else (some ([]:List ByteArray))))))=some r:=h
 clear h
 replace H:=Option.bind_eq_some_iff.mp H
 obtain ⟨t672,A50,H⟩:=H
 replace H:((mosaicref01_Sum.f k t672).bind fun t673=>((mosaicref03_folds.f k a0 a1 t673 l3).bind fun t674=>(if t674=0 then ((mosaicref03_LeafText.f a2).bind fun t675=>((mosaicref03_climb.f k a0 a1 t673 l3).bind fun bt679=>(mosaicref03_Road.l0 k (([t675]:List ByteArray)) 0 bt679.1 bt679.2))) else (some ([]:List ByteArray)))))=some r:=H
 have A5:=Aside0.mk A50
 clear A50
 replace H:=Option.bind_eq_some_iff.mp H
 obtain ⟨t673,A60,H⟩:=H
 replace H:((mosaicref03_folds.f k a0 a1 t673 l3).bind fun t674=>(if t674=0 then ((mosaicref03_LeafText.f a2).bind fun t675=>((mosaicref03_climb.f k a0 a1 t673 l3).bind fun bt679=>(mosaicref03_Road.l0 k (([t675]:List ByteArray)) 0 bt679.1 bt679.2))) else (some ([]:List ByteArray))))=some r:=H
 have A6:=Aside0.mk A60
 clear A60
 replace H:=Option.bind_eq_some_iff.mp H
 obtain ⟨t674,A70,H⟩:=H
 replace H:(if t674=0 then ((mosaicref03_LeafText.f a2).bind fun t675=>((mosaicref03_climb.f k a0 a1 t673 l3).bind fun bt679=>(mosaicref03_Road.l0 k (([t675]:List ByteArray)) 0 bt679.1 bt679.2))) else (some ([]:List ByteArray)))=some r:=H
 have A7:=Aside0.mk A70
 clear A70
 by_cases c8:t674=0
 ·
  rw [if_pos c8] at H
  have c8b0:(t674 == 0)=true:=beq_iff_eq.mpr c8
  have c8b1:(t674 != 0)=false:=bne_eq_false_iff_eq.mpr c8
  clear c8
  replace H:=Option.bind_eq_some_iff.mp H
  obtain ⟨t675,A90,H⟩:=H
  replace H:((mosaicref03_climb.f k a0 a1 t673 l3).bind fun bt679=>(mosaicref03_Road.l0 k (([t675]:List ByteArray)) 0 bt679.1 bt679.2))=some r:=H
  have A9:=Aside0.mk A90
  obtain rfl:t672=t675:=Option.some.inj (A5.out.symm.trans A9.out)
  clear A90
  obtain ⟨y676,hy676⟩:∃ y_:List ByteArray,y_=(([t672]:List ByteArray)):=⟨_,rfl⟩
  replace H:((mosaicref03_climb.f k a0 a1 t673 l3).bind fun bt679=>(mosaicref03_Road.l0 k y676 0 bt679.1 bt679.2))=some r:=by first|(rw [hy676];with_reducible exact H)|(have H2_:=(Option.bind_some _ _).symm.trans H;rw [hy676];with_reducible exact H2_)|(have H2_:=(Option.bind_some _ _).symm.trans H;with_reducible exact H2_)|with_reducible exact H|(rw [hy676];exact H)|exact H
  have Ny676:=Aside0.mk hy676
  clear hy676
  replace H:=Option.bind_eq_some_iff.mp H
  obtain ⟨⟨t679,t680⟩,A100,H⟩:=H
  replace H:(mosaicref03_Road.l0 k y676 0 t679 t680)=some r:=H
  have A10:=Aside0.mk A100
  clear A100
  have H':=Aside0.mk H
  clear H
  go_enter Try.func82,Try.ntmps82
  go_wp2_with (first|((with_reducible refine gate_callee (f:=49) rfl ?_);refine goesL_ (some 14) rfl rfl Try.func49 (by kernel_rfl) rfl #[.string a2] rfl (by (try simp only [List.map_toArray,List.map_cons,List.map_nil]);first|done|rfl|(simp only [List.length_drop,List.length_take];rfl)) ?_;(with_reducible refine (mosaicref03_LeafText.calls a2 t672 _ A5.out).mono ?_);rintro e w' ⟨rfl,⟨nd,rfl⟩⟩;refine ⟨_,rfl,?_⟩)|((with_reducible refine gate_callee (f:=27) rfl ?_);refine goesL_ (some 15) rfl rfl Try.func27 (by kernel_rfl) rfl #[.string t672] rfl (by (try simp only [List.map_toArray,List.map_cons,List.map_nil]);first|done|rfl|(simp only [List.length_drop,List.length_take];rfl)) ?_;(with_reducible refine (mosaicref01_Sum.calls k t672 t673 _ A6.out).mono ?_);rintro e w11 ⟨rfl,hb⟩;refine ⟨_,rfl,?_⟩;have n0_:=Aside0.mk (below_step (by repeat (first|(with_reducible first|exact HB.out|apply below_alloc|apply pw_below_drewN|apply below_drew1)|exact HB.out)) hb);clear HB;have HB:=n0_;clear n0_;(try clear hb);(try clear hb2);(try clear hk);(try clear hi))|((with_reducible refine gate_callee (f:=111) rfl ?_);refine goesL_ (some 20) rfl rfl Try.func111 (by kernel_rfl) rfl #[.int .i64 a0,.int .i64 a1,.string t673,.slice A3 l3.length c3] rfl (by (try simp only [List.map_toArray,List.map_cons,List.map_nil]);first|done|rfl|(simp only [List.length_drop,List.length_take];rfl)) ?_;(with_reducible refine (mosaicref03_folds.calls k a0 a1 t673 _ _ l3 t674 _ ?side1 ?side2 A7.out).mono ?_);(case side1=>repeat (first|exact (Kd.C_below HR3.out HB.out)|(with_reducible refine Kd.C_alloc ?_ _)|(with_reducible refine Kd.C_drewN ?_ _)|(with_reducible refine Kd.C_drew ?_)));(case side2=>exact HC3.out);rintro e w' ⟨rfl,⟨nd,rfl⟩⟩;refine ⟨_,rfl,?_⟩;(try (rw [drewN_self w11];generalize hq_:World.drewN w11 _=w11;have n0_:Aside0 (Below w.heap.size w w11):=⟨by rw [← hq_];exact (by repeat (first|(with_reducible first|exact HB.out|apply below_alloc|apply pw_below_drewN|apply below_drew1)|exact HB.out))⟩;clear HB hq_;have HB:=n0_;clear n0_)))|((with_reducible refine gate_callee (f:=49) rfl ?_);refine goesL_ (some 23) rfl rfl Try.func49 (by kernel_rfl) rfl #[.string a2] rfl (by (try simp only [List.map_toArray,List.map_cons,List.map_nil]);first|done|rfl|(simp only [List.length_drop,List.length_take];rfl)) ?_;(with_reducible refine (mosaicref03_LeafText.calls a2 t672 _ A9.out).mono ?_);rintro e w' ⟨rfl,⟨nd,rfl⟩⟩;refine ⟨_,rfl,?_⟩;(try (rw [drewN_self w11];generalize hq_:World.drewN w11 _=w11;have n0_:Aside0 (Below w.heap.size w w11):=⟨by rw [← hq_];exact (by repeat (first|(with_reducible first|exact HB.out|apply below_alloc|apply pw_below_drewN|apply below_drew1)|exact HB.out))⟩;clear HB hq_;have HB:=n0_;clear n0_)))|((with_reducible refine gate_dst (N:=24) rfl ?_);refine Kd.R_lit Kd.string _ 9 ?hg (N:=24) ?hd (xs:=([t672]:List ByteArray)) (inner:=[.string t672]) (ok:=fun _=>True) (okp:=fun _=>True) ?hr ?hp (fun _ hk=>hk) trivial (Below.refl _ _) (Nat.le_refl _) (by simp) ?_;(case hd=>rfl);(case hg=>rfl);(case hr=>first|(go_simp;done)|(go_simp;rfl));(case hp=>exact (Reps.one (show Kd.M Kd.string _ _ _ t672 [.string t672] from rfl) (Reps.none _ _)));intro v677 w12 ho13 hb hg_ hnew_;clear hg_ hnew_;(first|rw [← Ny676.out] at ho13|(simp only [Int.reduceToNat] at ho13;rw [← Ny676.out] at ho13));have n0_:=Aside0.mk (Kd.R_lower ho13 (below_size (by repeat (first|(with_reducible first|exact HB.out|apply below_alloc|apply pw_below_drewN|apply below_drew1)|exact HB.out))));have n1_:=Aside0.mk (below_step (by repeat (first|(with_reducible first|exact HB.out|apply below_alloc|apply pw_below_drewN|apply below_drew1)|exact HB.out)) hb);clear HB;have HO678:=n0_;have HB:=n1_;clear n0_ n1_;clear hb ho13)|((with_reducible refine gate_callee (f:=112) rfl ?_);refine goesL_ (some 29) rfl rfl Try.func112 (by kernel_rfl) rfl #[.int .i64 a0,.int .i64 a1,.string t673,.slice A3 l3.length c3] rfl (by (try simp only [List.map_toArray,List.map_cons,List.map_nil]);first|done|rfl|(simp only [List.length_drop,List.length_take];rfl)) ?_;(with_reducible refine (mosaicref03_climb.calls k a0 a1 t673 _ _ l3 t679 t680 _ ?side1 ?side2 A10.out).mono ?_);(case side1=>repeat (first|exact (Kd.C_below HR3.out HB.out)|(with_reducible refine Kd.C_alloc ?_ _)|(with_reducible refine Kd.C_drewN ?_ _)|(with_reducible refine Kd.C_drew ?_)));(case side2=>exact HC3.out);rintro e w14 ⟨v681,rfl,ho0,hb⟩;refine ⟨_,rfl,?_⟩;have n0_:=Aside0.mk (Kd.R_elder' (by (with_reducible repeat (first|apply Kd.R_alloc|apply Kd.R_drewN|apply Kd.R_drew));exact HO678.out) (Kd.R_base ho0) hb);have n1_:=Aside0.mk (Kd.R_lower (Kd.R_new' ho0 (Kd.R_lt (by (with_reducible repeat (first|apply Kd.R_alloc|apply Kd.R_drewN|apply Kd.R_drew));exact HO678.out))) (below_size (by repeat (first|(with_reducible first|exact HB.out|apply below_alloc|apply pw_below_drewN|apply below_drew1)|exact HB.out))));have n2_:=Aside0.mk (below_step (by repeat (first|(with_reducible first|exact HB.out|apply below_alloc|apply pw_below_drewN|apply below_drew1)|exact HB.out)) hb);clear HO678;clear HB;have HO678:=n0_;have HO682:=n1_;have HB:=n2_;clear n0_ n1_ n2_;(try clear hb);(try clear hb2);(try clear hk);(try clear hi);(try clear ho0))|((with_reducible refine gate_dst (N:=11) rfl ?_);refine box_event ?hg (N:=11) ?hd (cs:=#[.string (⟨#[]⟩:ByteArray),.slice none 0 0]) (t:=142) ?hr ?_;(case hd=>rfl);(case hg=>rfl);(case hr=>first|(go_simp;done)|(go_simp;rfl));intro gb683 hg w15 hbox hb;have n0_:=Aside0.mk (Kd.R_below (by (with_reducible repeat (first|apply Kd.R_alloc|apply Kd.R_drewN|apply Kd.R_drew));exact HO678.out) hb);have n1_:=Aside0.mk (Kd.R_below (by (with_reducible repeat (first|apply Kd.R_alloc|apply Kd.R_drewN|apply Kd.R_drew));exact HO682.out) hb);have n2_:=Aside0.mk (below_step (by repeat (first|(with_reducible first|exact HB.out|apply below_alloc|apply pw_below_drewN|apply below_drew1)|exact HB.out)) hb);have n3_:=Aside0.mk (hbox);have n4_:=Aside0.mk ((by rw [hg];exact (below_size (by repeat (first|(with_reducible first|exact HB.out|apply below_alloc|apply pw_below_drewN|apply below_drew1)|exact HB.out))):w.heap.size≤gb683));have n5_:=Aside0.mk ((by rw [hg];exact (below_size (by repeat (first|(with_reducible first|exact HB.out|apply below_alloc|apply pw_below_drewN|apply below_drew1)|exact HB.out))):w.heap.size≤gb683));clear HO678;clear HO682;clear HB;have HO678:=n0_;have HO682:=n1_;have HB:=n2_;have BK683:=n3_;have GW683:=n4_;have GE683:=n5_;clear n0_ n1_ n2_ n3_ n4_ n5_;clear hb hbox hg;have hcz16_0:w15.cell? ⟨gb683,0,none⟩=some (.string (⟨#[]⟩:ByteArray)):=(blk_cell BK683.out 0).trans rfl;have hcz16_1:w15.cell? ⟨gb683,1,none⟩=some (.slice none 0 0):=(blk_cell BK683.out 1).trans rfl;have hfz16_0:=blk_frozen BK683.out 0;have hfz16_1:=blk_frozen BK683.out 1;obtain ⟨Ao17,co17,eo17⟩:=Kd.R_slice HO682.out;subst eo17))
  go_loopg [10,12] k (fun kq v10 v12 w'=>∃ (x10_1:List ByteArray) (x12_1:Int),v12=.int .i64 x12_1∧Aside0 (mosaicref03_Road.l0 kq x10_1 x12_1 t679 t680=some r)∧Aside0 (kq≤k)∧Aside0 (Kd.R Kd.string 9 w' w.heap.size (fun k_=>some k_≠((.slice Ao17 t680.length co17):Value).ownBlock) v10 x10_1)∧Aside0 (Kd.R Kd.string 9 w' w.heap.size (fun k_=>some k_≠(v10:Value).ownBlock) (.slice Ao17 t680.length co17) t680)∧Aside0 (w'.heap[gb683]?=some (.cells #[.string t679,(.slice Ao17 t680.length co17)] 142 (0,0)))∧Aside0 (Below w.heap.size w w'))
  case atStart=>exact ⟨(y676),(0),(by first|rfl|(simp;done)|(simp [*];done)),H',⟨Nat.le_refl _⟩,⟨by (with_reducible repeat (first|apply Kd.R_alloc|apply Kd.R_drewN|apply Kd.R_drew));exact Kd.R_mono (Kd.R_far (p:=⟨gb683,1,none⟩) (Kd.R_far (p:=⟨gb683,0,none⟩) (Kd.R_types HO678.out BK683.out (by decide)) (fun _ hk=>hk.2) (.string t679)) (fun _ hk=>hk.2) (.slice Ao17 t680.length co17)) (fun _ hk=>hk.1.2)⟩,⟨by (with_reducible repeat (first|apply Kd.R_alloc|apply Kd.R_drewN|apply Kd.R_drew));exact Kd.R_mono (Kd.R_far (p:=⟨gb683,1,none⟩) (Kd.R_far (p:=⟨gb683,0,none⟩) (Kd.R_types HO682.out BK683.out (by decide)) (fun _ hk=>hk.2) (.string t679)) (fun _ hk=>hk.2) (.slice Ao17 t680.length co17)) (fun _ hk=>hk.1.2)⟩,⟨by (with_reducible repeat (first|refine blk_drewN ?_ _|refine blk_drew ?_|refine blk_alloc ?_ _));refine blk_put (cs:=#[.string t679,.slice none 0 0]) ?_ 1 _ rfl;(with_reducible repeat (first|refine blk_drewN ?_ _|refine blk_drew ?_|refine blk_alloc ?_ _));refine blk_put (cs:=#[.string (⟨#[]⟩:ByteArray),.slice none 0 0]) ?_ 0 _ rfl;(with_reducible repeat (first|refine blk_drewN ?_ _|refine blk_drew ?_|refine blk_alloc ?_ _));exact BK683.out⟩,⟨by repeat (first|(with_reducible first|exact HB.out|apply below_alloc|apply pw_below_drewN|apply below_drew1|refine below_set ?_ GE683.out)|exact HB.out)⟩⟩
  case round =>
   clear H'
   try clear c1
   try clear c2
   try clear p2
   try clear c3
   try clear c4
   try clear c8
   try clear c8b0
   try clear c8b1
   try clear c11
   try clear hcz16_0
   try clear hcz16_1
   try clear hfz16_0
   try clear hfz16_1
   obtain ⟨x10_1,x12_1,rfl,HA,HK1,HO_10,HO_684001,BK683,HB⟩:=hrel
   cases gk with
   | zero=>exact absurd HA.out (by simp [mosaicref03_Road.l0])
   | succ k1 =>
    have H:=HA.out
    clear HA
    simp only [mosaicref03_Road.l0] at H
    by_cases c18:x12_1 < (t680.length:Int)
    ·
     rw [if_pos c18] at H
     have c18b0:decide (x12_1 < (t680.length:Int))=true:=decide_eq_true c18
     clear c18
     by_cases c19:0≤x12_1
     ·
      rw [if_pos c19] at H
      have c19b0:decide (0≤x12_1)=true:=decide_eq_true c19
      clear c19
      by_cases c20:x10_1.length < 8796093022208
      ·
       rw [if_pos c20] at H
       have LMc20:=Aside0.mk c20
       clear c20
       obtain ⟨y685,hy685⟩:∃ y_:List ByteArray,y_=(x10_1 ++ [rdOf ByteArray.empty t680 x12_1]):=⟨_,rfl⟩
       replace H:(mosaicref03_Road.l0 k1 y685 (wrap64 (x12_1+1)) t679 t680)=some r:=by first|(rw [hy685];with_reducible exact H)|(have H2_:=(Option.bind_some _ _).symm.trans H;rw [hy685];with_reducible exact H2_)|(have H2_:=(Option.bind_some _ _).symm.trans H;with_reducible exact H2_)|with_reducible exact H|(rw [hy685];exact H)|exact H
       have Ny685:=Aside0.mk hy685
       clear hy685
       have H':=Aside0.mk H
       clear H
       have hcz21_0:wr.cell? ⟨gb683,0,none⟩=some (.string t679):=(blk_cell BK683.out 0).trans rfl
       have hcz21_1:wr.cell? ⟨gb683,1,none⟩=some (.slice Ao17 t680.length co17):=(blk_cell BK683.out 1).trans rfl
       have hfz21_0:=blk_frozen BK683.out 0
       have hfz21_1:=blk_frozen BK683.out 1
       have p684:0≤(x12_1:Int):=of_decide_eq_true (by first|(with_reducible assumption)|assumption)
       have q684:x12_1 < (t680.length:Int):=of_decide_eq_true (by first|(with_reducible assumption)|assumption)
       obtain ⟨ad684,e684,hx684_0⟩:=Kd.at_string (Kd.R_reads' HO_684001.out).2.2 x12_1 p684 q684
       cases e684
       replace p684:=eq_true p684
       replace q684:=eq_true q684
       go_wp2_with (first|((with_reducible refine gate_builtin (b:=.append) (xs:=#[.tmp 37,.tmp 43]) rfl ?_);at_builtin;refine Kd.R_append Kd.string (w0:=w) w.heap.size rfl (.tmp 37) (.tmp 43) 39 9 (.string ⟨#[]⟩) 16 rfl Try.underlying39 info9 rfl (by decide) (by omega) u10 x10_1 (rdOf ByteArray.empty t680 x12_1) [.string (rdOf ByteArray.empty t680 x12_1)] (fun k_=>some k_≠(.slice (some ad684) t680.length co17:Value).ownBlock) (fun _=>False) rfl rfl ?aP (fun _ hk=>hk.elim) ?aF ?aO ?aB ?aS ?aL ?_;(case aP=>exact rfl);(case aB=>exact (by repeat (first|(with_reducible first|exact HB.out|apply below_alloc|apply pw_below_drewN|apply below_drew1|refine below_set ?_ GE683.out)|exact HB.out)));(case aF=>exact (fun k_ hk=>Kd.fresh' (Kd.R_lt (by (with_reducible repeat (first|apply Kd.R_alloc|apply Kd.R_drewN|apply Kd.R_drew));exact HO_684001.out)) k_ hk));(case aO=>exact (by (with_reducible repeat (first|apply Kd.R_alloc|apply Kd.R_drewN|apply Kd.R_drew));exact HO_10.out));(case aS=>exact (below_size (by repeat (first|(with_reducible first|exact HB.out|apply below_alloc|apply pw_below_drewN|apply below_drew1|refine below_set ?_ GE683.out)|exact HB.out))));(case aL=>have:=LMc20.out;omega);intro v686 w22 ho hb hg hat;rw [← Ny685.out] at ho;have n0_:=Aside0.mk (Kd.R_after (ok:=(fun _=>True)) (by (with_reducible repeat (first|apply Kd.R_alloc|apply Kd.R_drewN|apply Kd.R_drew));exact Kd.R_mono HO_684001.out (fun _ hk=>⟨trivial,hk⟩)) hg hat);have n1_:=Aside0.mk (blk_grown (g:=gb683) (o:=.cells #[.string t679,.slice (some ad684) t680.length co17] 142 (0,0)) (by (with_reducible repeat (first|refine blk_drewN ?_ _|refine blk_drew ?_|refine blk_alloc ?_ _));exact BK683.out) hg (Kd.R_ne HO_10.out BK683.out (by decide)));have n2_:=Aside0.mk (hb);have n3_:=Aside0.mk (ho);clear HO_684001;clear BK683;clear HB;clear HO_10;have HO_684001:=n0_;have BK683:=n1_;have HB:=n2_;have HO687:=n3_;clear n0_ n1_ n2_ n3_;clear ho hb hg hat))
       go_roundg k1
       case measure=>have:=HK1.out;omega
       case rel=>exact ⟨(y685),(wrap64 (x12_1+1)),(by first|rfl|(simp;done)|(simp [*];done)),H',⟨by have:=HK1.out;omega⟩,⟨by (with_reducible repeat (first|apply Kd.R_alloc|apply Kd.R_drewN|apply Kd.R_drew));exact HO687.out⟩,⟨by (with_reducible repeat (first|apply Kd.R_alloc|apply Kd.R_drewN|apply Kd.R_drew));exact Kd.R_mono HO_684001.out (fun _ hk=>hk.2)⟩,⟨by (with_reducible repeat (first|refine blk_drewN ?_ _|refine blk_drew ?_|refine blk_alloc ?_ _));exact BK683.out⟩,⟨by repeat (first|(with_reducible first|exact HB.out|apply below_alloc|apply pw_below_drewN|apply below_drew1|refine below_set ?_ GE683.out)|exact HB.out)⟩⟩
      ·
       rw [if_neg c20] at H
       exact absurd H (by simp)
     ·
      rw [if_neg c19] at H
      exact absurd H (by simp)
    ·
     rw [if_neg c18] at H
     have c18b0:decide (x12_1 < (t680.length:Int))=false:=decide_eq_false c18
     clear c18
     obtain rfl:=Option.some.inj H
     have hcz23_0:wr.cell? ⟨gb683,0,none⟩=some (.string t679):=(blk_cell BK683.out 0).trans rfl
     have hcz23_1:wr.cell? ⟨gb683,1,none⟩=some (.slice Ao17 t680.length co17):=(blk_cell BK683.out 1).trans rfl
     have hfz23_0:=blk_frozen BK683.out 0
     have hfz23_1:=blk_frozen BK683.out 1
     go_wp2
     go_ret
     exact ⟨_,by first|rfl|(simp [errW_none,errW_some] <;> rfl)|(simp [*,errW_none,errW_some] <;> rfl),by (with_reducible repeat (first|apply Kd.R_alloc|apply Kd.R_drewN|apply Kd.R_drew));exact Kd.R_mono HO_10.out (fun _ hk=>trivial),by repeat (first|(with_reducible first|exact HB.out|apply below_alloc|apply pw_below_drewN|apply below_drew1|refine below_set ?_ GE683.out)|exact HB.out)⟩
 ·
  rw [if_neg c8] at H
  have c8b0:(t674 == 0)=false:=beq_eq_false_iff_ne.mpr c8
  have c8b1:(t674 != 0)=true:=bne_iff_ne.mpr c8
  obtain rfl:=Option.some.inj H
  go_enter Try.func82,Try.ntmps82
  go_wp2_with (first|((with_reducible refine gate_callee (f:=49) rfl ?_);refine goesL_ (some 14) rfl rfl Try.func49 (by kernel_rfl) rfl #[.string a2] rfl (by (try simp only [List.map_toArray,List.map_cons,List.map_nil]);first|done|rfl|(simp only [List.length_drop,List.length_take];rfl)) ?_;(with_reducible refine (mosaicref03_LeafText.calls a2 t672 _ A5.out).mono ?_);rintro e w' ⟨rfl,⟨nd,rfl⟩⟩;refine ⟨_,rfl,?_⟩)|((with_reducible refine gate_callee (f:=27) rfl ?_);refine goesL_ (some 15) rfl rfl Try.func27 (by kernel_rfl) rfl #[.string t672] rfl (by (try simp only [List.map_toArray,List.map_cons,List.map_nil]);first|done|rfl|(simp only [List.length_drop,List.length_take];rfl)) ?_;(with_reducible refine (mosaicref01_Sum.calls k t672 t673 _ A6.out).mono ?_);rintro e w24 ⟨rfl,hb⟩;refine ⟨_,rfl,?_⟩;have n0_:=Aside0.mk (below_step (by repeat (first|(with_reducible first|exact HB.out|apply below_alloc|apply pw_below_drewN|apply below_drew1)|exact HB.out)) hb);clear HB;have HB:=n0_;clear n0_;(try clear hb);(try clear hb2);(try clear hk);(try clear hi))|((with_reducible refine gate_callee (f:=111) rfl ?_);refine goesL_ (some 20) rfl rfl Try.func111 (by kernel_rfl) rfl #[.int .i64 a0,.int .i64 a1,.string t673,.slice A3 l3.length c3] rfl (by (try simp only [List.map_toArray,List.map_cons,List.map_nil]);first|done|rfl|(simp only [List.length_drop,List.length_take];rfl)) ?_;(with_reducible refine (mosaicref03_folds.calls k a0 a1 t673 _ _ l3 t674 _ ?side1 ?side2 A7.out).mono ?_);(case side1=>repeat (first|exact (Kd.C_below HR3.out HB.out)|(with_reducible refine Kd.C_alloc ?_ _)|(with_reducible refine Kd.C_drewN ?_ _)|(with_reducible refine Kd.C_drew ?_)));(case side2=>exact HC3.out);rintro e w' ⟨rfl,⟨nd,rfl⟩⟩;refine ⟨_,rfl,?_⟩))
  go_ret
  exact ⟨_,by first|rfl|(simp [errW_none,errW_some] <;> rfl)|(simp [*,errW_none,errW_some] <;> rfl),by first|exact Kd.R_nil _ _ _ _ _|exact Kd.N_nil _ _ _ _ _|exact Kd.V_nil _ _ _ _ _|exact Kd.Q_nil _ _ _ _ _|exact Kd.S_nil _ _ _ _ _,by repeat (first|(with_reducible first|exact HB.out|apply below_alloc|apply pw_below_drewN|apply below_drew1)|exact HB.out)⟩
end Go.Proofs.Ytelcaepenfjloaa.Print
/-! #### PureMer3 -/
/- Folding a digest by a path: level by level it comes to what halves come to. -/
namespace Go.Proofs.Ytelcaepenfjloaa.Pure
open Go.RowKit Go.Proofs.Ytelcaepenfjloaa.Print Go.Proofs.YtelcaepenfjloaaW.PrintWords Go.Proofs.YtelcaepenfjloaaW.PrintLast Go.Proofs.YtelcaepenfjloaaW.PrintMore
set_option linter.unusedVariables false
set_option linter.unusedSimpArgs false
theorem snoc {α:Type} (l:List α) (k:Nat) (h:l.length=k+1):∃ p x,l=p ++ [x]∧p.length=k:=by
 refine ⟨l.take k,l[k],?_,by rw [List.length_take];omega⟩
 rw [← List.take_succ_eq_append_getElem (by omega),List.take_of_length_le (by omega)]
/-! ### What the functions come to -/
end Go.Proofs.Ytelcaepenfjloaa.Pure
/-! #### Pr57 -/
namespace Go.Proofs.Ytelcaepenfjloaa.Print
open Go.RowKit Go.Proofs.YtelcaepenfjloaaW.PrintWords Go.Proofs.YtelcaepenfjloaaW.PrintLast Go.Proofs.YtelcaepenfjloaaW.PrintMore
attribute [local go_sem] max2_int min2_int max_two min_two max_three min_three max_four min_four
set_option linter.unusedVariables false
set_option linter.unusedSimpArgs false
/-! ### merkle_Witness: function 57 -/
mutual
def merkle_Witness.l0:Nat→List ByteArray→List ByteArray→List ByteArray→Int→Int→Option (ByteArray×ByteArray×Bool)
 | 0,_,_,_,_,_=>none
 | k+1,x0,x5,x10,x11,x12=>if x12 < x11 then (if 0≤x12 then (if x12 < (x10.length:Int) then ((sha_Sum.f (rdOf ByteArray.empty x10 x12)).bind fun t382=>(if x5.length < 8796093022208 then (merkle_Witness.l0 k x0 (x5 ++ [t382]) x10 x11 (wrap64 (x12+1))) else (none))) else (none)) else (none)) else (merkle_Witness.l1 k x0 x5 (x0.length:Int) 0)
def merkle_Witness.l1:Nat→List ByteArray→List ByteArray→Int→Int→Option (ByteArray×ByteArray×Bool)
 | 0,_,_,_,_=>none
 | k+1,x0,x5,x23,x24=>if x24 < x23 then (merkle_Witness.l2 k x0 x5 x24 (wrap64 (x24+1)) x23 x24) else (some ((⟨#[]⟩:ByteArray),(⟨#[]⟩:ByteArray),false))
def merkle_Witness.l2:Nat→List ByteArray→List ByteArray→Int→Int→Int→Int→Option (ByteArray×ByteArray×Bool)
 | 0,_,_,_,_,_,_=>none
 | k+1,x0,x5,x8,x9,x23,x24=>if x9 < (x0.length:Int) then (if 0≤x8 then (if x8 < (x5.length:Int) then (if 0≤x9 then (if x9 < (x5.length:Int) then (if (rdOf ByteArray.empty x5 x8).toList=(rdOf ByteArray.empty x5 x9).toList then (if x8 < (x0.length:Int) then (if (rdOf ByteArray.empty x0 x8).toList=(rdOf ByteArray.empty x0 x9).toList then (merkle_Witness.l2 k x0 x5 x8 (wrap64 (x9+1)) x23 x24) else (some (rdOf ByteArray.empty x0 x8,rdOf ByteArray.empty x0 x9,true))) else (none)) else (merkle_Witness.l2 k x0 x5 x8 (wrap64 (x9+1)) x23 x24)) else (none)) else (none)) else (none)) else (none)) else (merkle_Witness.l1 k x0 x5 x23 (wrap64 (x24+1)))
end
def merkle_Witness.f (k:Nat) (l0:List ByteArray):Option (ByteArray×ByteArray×Bool):=merkle_Witness.l0 k l0 ([]:List ByteArray) l0 (l0.length:Int) 0
theorem merkle_Witness.mono_l:∀ k,(∀ y0 y1 y2 y3 y4,LeO (merkle_Witness.l0 k y0 y1 y2 y3 y4) (merkle_Witness.l0 (k+1) y0 y1 y2 y3 y4))∧(∀ y0 y1 y2 y3,LeO (merkle_Witness.l1 k y0 y1 y2 y3) (merkle_Witness.l1 (k+1) y0 y1 y2 y3))∧(∀ y0 y1 y2 y3 y4 y5,LeO (merkle_Witness.l2 k y0 y1 y2 y3 y4 y5) (merkle_Witness.l2 (k+1) y0 y1 y2 y3 y4 y5))
 | 0=>⟨fun _ _ _ _ _ r h=>by simp [merkle_Witness.l0] at h,fun _ _ _ _ r h=>by simp [merkle_Witness.l1] at h,fun _ _ _ _ _ _ r h=>by simp [merkle_Witness.l2] at h⟩
 | k+1=>by
  obtain ⟨ih0,ih1,ih2⟩:=merkle_Witness.mono_l k
  refine ⟨?_,?_,?_⟩
  ·
   intro y0 y1 y2 y3 y4
   unfold merkle_Witness.l0
   repeat' first
   | (with_reducible exact ih0 _ _ _ _ _)
   | (with_reducible exact ih1 _ _ _ _)
   | (with_reducible exact ih2 _ _ _ _ _ _)
   | (with_reducible exact LeO.refl _)
   | (with_reducible exact LeO.none _)
   | (with_reducible refine LeO.ite ?_ ?_)
   | (with_reducible refine LeO.bind ?_ (fun _=>?_))
   | exact ih0 _ _ _ _ _
   | exact ih1 _ _ _ _
   | exact ih2 _ _ _ _ _ _
   | exact LeO.none _
   | refine LeO.ite ?_ ?_
   | refine LeO.bind ?_ (fun _=>?_)
  ·
   intro y0 y1 y2 y3
   unfold merkle_Witness.l1
   repeat' first
   | (with_reducible exact ih0 _ _ _ _ _)
   | (with_reducible exact ih1 _ _ _ _)
   | (with_reducible exact ih2 _ _ _ _ _ _)
   | (with_reducible exact LeO.refl _)
   | (with_reducible exact LeO.none _)
   | (with_reducible refine LeO.ite ?_ ?_)
   | (with_reducible refine LeO.bind ?_ (fun _=>?_))
   | exact ih0 _ _ _ _ _
   | exact ih1 _ _ _ _
   | exact ih2 _ _ _ _ _ _
   | exact LeO.none _
   | refine LeO.ite ?_ ?_
   | refine LeO.bind ?_ (fun _=>?_)
  ·
   intro y0 y1 y2 y3 y4 y5
   unfold merkle_Witness.l2
   repeat' first
   | (with_reducible exact ih0 _ _ _ _ _)
   | (with_reducible exact ih1 _ _ _ _)
   | (with_reducible exact ih2 _ _ _ _ _ _)
   | (with_reducible exact LeO.refl _)
   | (with_reducible exact LeO.none _)
   | (with_reducible refine LeO.ite ?_ ?_)
   | (with_reducible refine LeO.bind ?_ (fun _=>?_))
   | exact ih0 _ _ _ _ _
   | exact ih1 _ _ _ _
   | exact ih2 _ _ _ _ _ _
   | exact LeO.none _
   | refine LeO.ite ?_ ?_
   | refine LeO.bind ?_ (fun _=>?_)
theorem merkle_Witness.mono:∀ a0 k,LeO (merkle_Witness.f k a0) (merkle_Witness.f (k+1) a0):=by
 intro a0 k
 obtain ⟨ih0,ih1,ih2⟩:=merkle_Witness.mono_l k
 unfold merkle_Witness.f
 repeat' first
   | (with_reducible exact ih0 _ _ _ _ _)
   | (with_reducible exact ih1 _ _ _ _)
   | (with_reducible exact ih2 _ _ _ _ _ _)
   | (with_reducible exact LeO.refl _)
   | (with_reducible exact LeO.none _)
   | (with_reducible refine LeO.ite ?_ ?_)
   | (with_reducible refine LeO.bind ?_ (fun _=>?_))
   | exact ih0 _ _ _ _ _
   | exact ih1 _ _ _ _
   | exact ih2 _ _ _ _ _ _
   | exact LeO.none _
   | refine LeO.ite ?_ ?_
   | refine LeO.bind ?_ (fun _=>?_)
set_option maxHeartbeats 8000000 in
set_option maxRecDepth 100000 in
theorem merkle_Witness.calls (k:Nat) (A0:Option Addr) (c0:Nat) (l0:List ByteArray) (r1:ByteArray) (r2:ByteArray) (r3:Bool) (w:World) (hr0:Kd.C Kd.string w A0 l0.length l0) (hc0:l0.length≤c0) (h:merkle_Witness.f k l0=some (r1,r2,r3)) :
  Calls Try.prog 57 #[.slice A0 l0.length c0] w fun e w'=>e=.returned (.tuple #[.string r1,.string r2,.bool r3])∧Below w.heap.size w w':=by
 have HR0:=Aside0.mk hr0
 have HC0:=Aside0.mk hc0
 clear hr0 hc0
 have HB:=Aside0.mk (Below.refl w.heap.size w)
 have H:(merkle_Witness.l0 k l0 ([]:List ByteArray) l0 (l0.length:Int) 0)=some (r1,r2,r3):=h
 clear h
 have H':=Aside0.mk H
 clear H
 go_enter Try.func57,Try.ntmps57
 go_wp2
 repeat (go_quiet (fail);try go_wp2)
 go_loopg [5,12] k (fun kq v5 v12 w'=>∃ (x5_1:List ByteArray) (x12_1:Int),v12=.int .i64 x12_1∧Aside0 (merkle_Witness.l0 kq l0 x5_1 l0 (l0.length:Int) x12_1=some (r1,r2,r3))∧Aside0 (kq≤k)∧Aside0 (Kd.R Kd.string 9 w' w.heap.size (fun _=>True) v5 x5_1)∧Aside0 (Below w.heap.size w w'))
 case atStart=>exact ⟨(([]:List ByteArray)),(0),(by first|rfl|(simp;done)|(simp [*];done)),H',⟨Nat.le_refl _⟩,⟨by first|exact Kd.R_nil _ _ _ _ _|exact Kd.N_nil _ _ _ _ _|exact Kd.V_nil _ _ _ _ _|exact Kd.Q_nil _ _ _ _ _|exact Kd.S_nil _ _ _ _ _⟩,⟨by repeat (first|(with_reducible first|exact HB.out|apply below_alloc|apply pw_below_drewN|apply below_drew1)|exact HB.out)⟩⟩
 case round =>
  clear H'
  obtain ⟨x5_1,x12_1,rfl,HA,HK1,HO_5,HB⟩:=hrel
  cases gk with
  | zero=>exact absurd HA.out (by simp [merkle_Witness.l0])
  | succ k1 =>
   have H:=HA.out
   clear HA
   simp only [merkle_Witness.l0] at H
   by_cases c2:x12_1 < (l0.length:Int)
   ·
    rw [if_pos c2] at H
    have c2b0:decide (x12_1 < (l0.length:Int))=true:=decide_eq_true c2
    clear c2
    by_cases c3:0≤x12_1
    ·
     rw [if_pos c3] at H
     have c3b0:decide (0≤x12_1)=true:=decide_eq_true c3
     clear c3
     by_cases c4:x12_1 < (l0.length:Int)
     ·
      rw [if_pos c4] at H
      have c4b0:decide (x12_1 < (l0.length:Int))=true:=decide_eq_true c4
      clear c4
      replace H:=Option.bind_eq_some_iff.mp H
      obtain ⟨t382,A50,H⟩:=H
      replace H:(if x5_1.length < 8796093022208 then (merkle_Witness.l0 k1 l0 (x5_1 ++ [t382]) l0 (l0.length:Int) (wrap64 (x12_1+1))) else (none))=some (r1,r2,r3):=H
      have A5:=Aside0.mk A50
      clear A50
      by_cases c6:x5_1.length < 8796093022208
      ·
       rw [if_pos c6] at H
       have LMc6:=Aside0.mk c6
       clear c6
       obtain ⟨y383,hy383⟩:∃ y_:List ByteArray,y_=(x5_1 ++ [t382]):=⟨_,rfl⟩
       replace H:(merkle_Witness.l0 k1 l0 y383 l0 (l0.length:Int) (wrap64 (x12_1+1)))=some (r1,r2,r3):=by first|(rw [hy383];with_reducible exact H)|(have H2_:=(Option.bind_some _ _).symm.trans H;rw [hy383];with_reducible exact H2_)|(have H2_:=(Option.bind_some _ _).symm.trans H;with_reducible exact H2_)|with_reducible exact H|(rw [hy383];exact H)|exact H
       have Ny383:=Aside0.mk hy383
       clear hy383
       have H':=Aside0.mk H
       clear H
       have p381:0≤(x12_1:Int):=of_decide_eq_true (by first|(with_reducible assumption)|assumption)
       have q381:x12_1 < (l0.length:Int):=of_decide_eq_true (by first|(with_reducible assumption)|assumption)
       obtain ⟨ad381,e381,hx381_0⟩:=Kd.at_string HR0.out x12_1 p381 q381
       cases e381
       replace hx381_0:=(HB.out.cell (World.block_lt_of_cell? w _ hx381_0)).trans hx381_0
       replace p381:=eq_true p381
       replace q381:=eq_true q381
       go_wp2_with (first|(go_at_call 26;(with_reducible refine (sha_Sum.calls (rdOf ByteArray.empty l0 x12_1) t382 _ A5.out).mono ?_);rintro e w7 ⟨rfl,hb⟩;have n0_:=Aside0.mk (Kd.R_below (by (with_reducible repeat (first|apply Kd.R_alloc|apply Kd.R_drewN|apply Kd.R_drew));exact HO_5.out) hb);have n1_:=Aside0.mk (below_step (by repeat (first|(with_reducible first|exact HB.out|apply below_alloc|apply pw_below_drewN|apply below_drew1)|exact HB.out)) hb);clear HO_5;clear HB;have HO_5:=n0_;have HB:=n1_;clear n0_ n1_;(try clear hb);(try clear hb2);(try clear hk);(try clear hi))|((with_reducible refine gate_builtin (b:=.append) (xs:=#[.tmp 16,.tmp 19]) rfl ?_);at_builtin;refine Kd.R_append Kd.string (w0:=w) w.heap.size rfl (.tmp 16) (.tmp 19) 39 9 (.string ⟨#[]⟩) 16 rfl Try.underlying39 info9 rfl (by decide) (by omega) u5 x5_1 t382 [.string t382] (fun _=>True) (fun _=>False) rfl rfl ?aP (fun _ hk=>hk.elim) ?aF ?aO ?aB ?aS ?aL ?_;(case aP=>exact rfl);(case aB=>exact (by repeat (first|(with_reducible first|exact HB.out|apply below_alloc|apply pw_below_drewN|apply below_drew1)|exact HB.out)));(case aF=>exact (fun _ _=>trivial));(case aO=>exact (by (with_reducible repeat (first|apply Kd.R_alloc|apply Kd.R_drewN|apply Kd.R_drew));exact HO_5.out));(case aS=>exact (below_size (by repeat (first|(with_reducible first|exact HB.out|apply below_alloc|apply pw_below_drewN|apply below_drew1)|exact HB.out))));(case aL=>have:=LMc6.out;omega);intro v384 w8 ho hb hg hat;rw [← Ny383.out] at ho;have n0_:=Aside0.mk (hb);have n1_:=Aside0.mk (ho);clear HB;clear HO_5;have HB:=n0_;have HO385:=n1_;clear n0_ n1_;clear ho hb hg hat))
       repeat (go_quiet (first|(go_at_call 26;(with_reducible refine (sha_Sum.calls (rdOf ByteArray.empty l0 x12_1) t382 _ A5.out).mono ?_);rintro e w7 ⟨rfl,hb⟩;have n0_:=Aside0.mk (Kd.R_below (by (with_reducible repeat (first|apply Kd.R_alloc|apply Kd.R_drewN|apply Kd.R_drew));exact HO_5.out) hb);have n1_:=Aside0.mk (below_step (by repeat (first|(with_reducible first|exact HB.out|apply below_alloc|apply pw_below_drewN|apply below_drew1)|exact HB.out)) hb);clear HO_5;clear HB;have HO_5:=n0_;have HB:=n1_;clear n0_ n1_;(try clear hb);(try clear hb2);(try clear hk);(try clear hi))|((with_reducible refine gate_builtin (b:=.append) (xs:=#[.tmp 16,.tmp 19]) rfl ?_);at_builtin;refine Kd.R_append Kd.string (w0:=w) w.heap.size rfl (.tmp 16) (.tmp 19) 39 9 (.string ⟨#[]⟩) 16 rfl Try.underlying39 info9 rfl (by decide) (by omega) u5 x5_1 t382 [.string t382] (fun _=>True) (fun _=>False) rfl rfl ?aP (fun _ hk=>hk.elim) ?aF ?aO ?aB ?aS ?aL ?_;(case aP=>exact rfl);(case aB=>exact (by repeat (first|(with_reducible first|exact HB.out|apply below_alloc|apply pw_below_drewN|apply below_drew1)|exact HB.out)));(case aF=>exact (fun _ _=>trivial));(case aO=>exact (by (with_reducible repeat (first|apply Kd.R_alloc|apply Kd.R_drewN|apply Kd.R_drew));exact HO_5.out));(case aS=>exact (below_size (by repeat (first|(with_reducible first|exact HB.out|apply below_alloc|apply pw_below_drewN|apply below_drew1)|exact HB.out))));(case aL=>have:=LMc6.out;omega);intro v384 w8 ho hb hg hat;rw [← Ny383.out] at ho;have n0_:=Aside0.mk (hb);have n1_:=Aside0.mk (ho);clear HB;clear HO_5;have HB:=n0_;have HO385:=n1_;clear n0_ n1_;clear ho hb hg hat));try go_wp2_with (first|(go_at_call 26;(with_reducible refine (sha_Sum.calls (rdOf ByteArray.empty l0 x12_1) t382 _ A5.out).mono ?_);rintro e w7 ⟨rfl,hb⟩;have n0_:=Aside0.mk (Kd.R_below (by (with_reducible repeat (first|apply Kd.R_alloc|apply Kd.R_drewN|apply Kd.R_drew));exact HO_5.out) hb);have n1_:=Aside0.mk (below_step (by repeat (first|(with_reducible first|exact HB.out|apply below_alloc|apply pw_below_drewN|apply below_drew1)|exact HB.out)) hb);clear HO_5;clear HB;have HO_5:=n0_;have HB:=n1_;clear n0_ n1_;(try clear hb);(try clear hb2);(try clear hk);(try clear hi))|((with_reducible refine gate_builtin (b:=.append) (xs:=#[.tmp 16,.tmp 19]) rfl ?_);at_builtin;refine Kd.R_append Kd.string (w0:=w) w.heap.size rfl (.tmp 16) (.tmp 19) 39 9 (.string ⟨#[]⟩) 16 rfl Try.underlying39 info9 rfl (by decide) (by omega) u5 x5_1 t382 [.string t382] (fun _=>True) (fun _=>False) rfl rfl ?aP (fun _ hk=>hk.elim) ?aF ?aO ?aB ?aS ?aL ?_;(case aP=>exact rfl);(case aB=>exact (by repeat (first|(with_reducible first|exact HB.out|apply below_alloc|apply pw_below_drewN|apply below_drew1)|exact HB.out)));(case aF=>exact (fun _ _=>trivial));(case aO=>exact (by (with_reducible repeat (first|apply Kd.R_alloc|apply Kd.R_drewN|apply Kd.R_drew));exact HO_5.out));(case aS=>exact (below_size (by repeat (first|(with_reducible first|exact HB.out|apply below_alloc|apply pw_below_drewN|apply below_drew1)|exact HB.out))));(case aL=>have:=LMc6.out;omega);intro v384 w8 ho hb hg hat;rw [← Ny383.out] at ho;have n0_:=Aside0.mk (hb);have n1_:=Aside0.mk (ho);clear HB;clear HO_5;have HB:=n0_;have HO385:=n1_;clear n0_ n1_;clear ho hb hg hat)))
       go_roundg k1
       case measure=>have:=HK1.out;omega
       case rel=>exact ⟨(y383),(wrap64 (x12_1+1)),(by first|rfl|(simp;done)|(simp [*];done)),H',⟨by have:=HK1.out;omega⟩,⟨by (with_reducible repeat (first|apply Kd.R_alloc|apply Kd.R_drewN|apply Kd.R_drew));exact HO385.out⟩,⟨by repeat (first|(with_reducible first|exact HB.out|apply below_alloc|apply pw_below_drewN|apply below_drew1)|exact HB.out)⟩⟩
      ·
       rw [if_neg c6] at H
       exact absurd H (by simp)
     ·
      rw [if_neg c4] at H
      exact absurd H (by simp)
    ·
     rw [if_neg c3] at H
     exact absurd H (by simp)
   ·
    rw [if_neg c2] at H
    have c2b0:decide (x12_1 < (l0.length:Int))=false:=decide_eq_false c2
    clear c2
    have H':=Aside0.mk H
    clear H
    go_wp2
    repeat (go_quiet (fail);try go_wp2)
    go_loopg [24] k1 (fun kq v24 w'=>∃ (x24_2:Int),v24=.int .i64 x24_2∧Aside0 (merkle_Witness.l1 kq l0 x5_1 (l0.length:Int) x24_2=some (r1,r2,r3))∧Aside0 (kq≤k1)∧Aside0 (Kd.R Kd.string 9 w' w.heap.size (fun _=>True) u5 x5_1)∧Aside0 (Below w.heap.size w w'))
    case atStart=>exact ⟨(0),(by first|rfl|(simp;done)|(simp [*];done)),H',⟨Nat.le_refl _⟩,⟨by (with_reducible repeat (first|apply Kd.R_alloc|apply Kd.R_drewN|apply Kd.R_drew));exact HO_5.out⟩,⟨by repeat (first|(with_reducible first|exact HB.out|apply below_alloc|apply pw_below_drewN|apply below_drew1)|exact HB.out)⟩⟩
    case round =>
     clear H'
     try clear c2
     try clear c2b0
     try clear p2
     try clear c3
     try clear c3b0
     try clear p3
     try clear q3
     try clear hx3
     try clear c4
     try clear c4b0
     try clear c5
     try clear c6
     try clear p6
     try clear hx381_0
     try clear p381
     try clear q381
     obtain ⟨x24_2,rfl,HA,HK2,HO_5,HB⟩:=hrel
     cases gk with
     | zero=>exact absurd HA.out (by simp [merkle_Witness.l1])
     | succ k2 =>
      have H:=HA.out
      clear HA
      simp only [merkle_Witness.l1] at H
      by_cases c9:x24_2 < (l0.length:Int)
      ·
       rw [if_pos c9] at H
       have c9b0:decide (x24_2 < (l0.length:Int))=true:=decide_eq_true c9
       clear c9
       have H':=Aside0.mk H
       clear H
       go_wp2
       repeat (go_quiet (fail);try go_wp2)
       go_loopg [9] k2 (fun kq v9 w'=>∃ (x9_3:Int),v9=.int .i64 x9_3∧Aside0 (merkle_Witness.l2 kq l0 x5_1 x24_2 x9_3 (l0.length:Int) x24_2=some (r1,r2,r3))∧Aside0 (kq≤k2)∧Aside0 (Kd.R Kd.string 9 w' w.heap.size (fun _=>True) u5 x5_1)∧Aside0 (Below w.heap.size w w'))
       case atStart=>exact ⟨(wrap64 (x24_2+1)),(by first|rfl|(simp;done)|(simp [*];done)),H',⟨Nat.le_refl _⟩,⟨by (with_reducible repeat (first|apply Kd.R_alloc|apply Kd.R_drewN|apply Kd.R_drew));exact HO_5.out⟩,⟨by repeat (first|(with_reducible first|exact HB.out|apply below_alloc|apply pw_below_drewN|apply below_drew1)|exact HB.out)⟩⟩
       case round =>
        clear H'
        try clear c2
        try clear c2b0
        try clear p2
        try clear c3
        try clear c3b0
        try clear p3
        try clear q3
        try clear hx3
        try clear c4
        try clear c4b0
        try clear c5
        try clear c6
        try clear p6
        try clear c9
        try clear c9b0
        try clear hx381_0
        try clear p2
        try clear p3
        try clear p381
        try clear p6
        try clear q3
        try clear q381
        obtain ⟨x9_3,rfl,HA,HK3,HO_5,HB⟩:=hrel
        cases gk with
        | zero=>exact absurd HA.out (by simp [merkle_Witness.l2])
        | succ k3 =>
         have H:=HA.out
         clear HA
         simp only [merkle_Witness.l2] at H
         by_cases c10:x9_3 < (l0.length:Int)
         ·
          rw [if_pos c10] at H
          have c10b0:decide (x9_3 < (l0.length:Int))=true:=decide_eq_true c10
          clear c10
          by_cases c11:0≤x24_2
          ·
           rw [if_pos c11] at H
           have c11b0:decide (0≤x24_2)=true:=decide_eq_true c11
           clear c11
           by_cases c12:x24_2 < (x5_1.length:Int)
           ·
            rw [if_pos c12] at H
            have c12b0:decide (x24_2 < (x5_1.length:Int))=true:=decide_eq_true c12
            clear c12
            by_cases c13:0≤x9_3
            ·
             rw [if_pos c13] at H
             have c13b0:decide (0≤x9_3)=true:=decide_eq_true c13
             clear c13
             by_cases c14:x9_3 < (x5_1.length:Int)
             ·
              rw [if_pos c14] at H
              have c14b0:decide (x9_3 < (x5_1.length:Int))=true:=decide_eq_true c14
              clear c14
              by_cases c15:(rdOf ByteArray.empty x5_1 x24_2).toList=(rdOf ByteArray.empty x5_1 x9_3).toList
              ·
               rw [if_pos c15] at H
               have c15b0:((rdOf ByteArray.empty x5_1 x24_2).toList == (rdOf ByteArray.empty x5_1 x9_3).toList)=true:=beq_iff_eq.mpr c15
               have c15b1:((rdOf ByteArray.empty x5_1 x24_2).toList != (rdOf ByteArray.empty x5_1 x9_3).toList)=false:=bne_eq_false_iff_eq.mpr c15
               clear c15
               by_cases c16:x24_2 < (l0.length:Int)
               ·
                rw [if_pos c16] at H
                have c16b0:decide (x24_2 < (l0.length:Int))=true:=decide_eq_true c16
                clear c16
                by_cases c17:(rdOf ByteArray.empty l0 x24_2).toList=(rdOf ByteArray.empty l0 x9_3).toList
                ·
                 rw [if_pos c17] at H
                 have c17b0:((rdOf ByteArray.empty l0 x24_2).toList == (rdOf ByteArray.empty l0 x9_3).toList)=true:=beq_iff_eq.mpr c17
                 have c17b1:((rdOf ByteArray.empty l0 x24_2).toList != (rdOf ByteArray.empty l0 x9_3).toList)=false:=bne_eq_false_iff_eq.mpr c17
                 clear c17
                 have H':=Aside0.mk H
                 clear H
                 obtain ⟨Ao18,co18,eo18⟩:=Kd.R_slice HO_5.out
                 subst eo18
                 have p386:0≤(x24_2:Int):=of_decide_eq_true (by first|(with_reducible assumption)|assumption)
                 have q386:x24_2 < (x5_1.length:Int):=of_decide_eq_true (by first|(with_reducible assumption)|assumption)
                 obtain ⟨ad386,e386,hx386_0⟩:=Kd.at_string (Kd.R_reads' HO_5.out).2.2 x24_2 p386 q386
                 cases e386
                 replace p386:=eq_true p386
                 replace q386:=eq_true q386
                 have p387:0≤(x9_3:Int):=of_decide_eq_true (by first|(with_reducible assumption)|assumption)
                 have q387:x9_3 < (x5_1.length:Int):=of_decide_eq_true (by first|(with_reducible assumption)|assumption)
                 obtain ⟨ad387,e387,hx387_0⟩:=Kd.at_string (Kd.R_reads' HO_5.out).2.2 x9_3 p387 q387
                 obtain rfl:ad386=ad387:=(by injection e387)
                 replace p387:=eq_true p387
                 replace q387:=eq_true q387
                 have p388:0≤(x24_2:Int):=of_decide_eq_true (by first|(with_reducible assumption)|assumption)
                 have q388:x24_2 < (l0.length:Int):=of_decide_eq_true (by first|(with_reducible assumption)|assumption)
                 obtain ⟨ad388,e388,hx388_0⟩:=Kd.at_string HR0.out x24_2 p388 q388
                 cases e388
                 replace hx388_0:=(HB.out.cell (World.block_lt_of_cell? w _ hx388_0)).trans hx388_0
                 replace p388:=eq_true p388
                 replace q388:=eq_true q388
                 have p389:0≤(x9_3:Int):=of_decide_eq_true (by first|(with_reducible assumption)|assumption)
                 have q389:x9_3 < (l0.length:Int):=of_decide_eq_true (by first|(with_reducible assumption)|assumption)
                 obtain ⟨ad389,e389,hx389_0⟩:=Kd.at_string HR0.out x9_3 p389 q389
                 obtain rfl:ad388=ad389:=(by injection e389)
                 replace hx389_0:=(HB.out.cell (World.block_lt_of_cell? w _ hx389_0)).trans hx389_0
                 replace p389:=eq_true p389
                 replace q389:=eq_true q389
                 go_wp2
                 repeat (go_quiet (fail);try go_wp2)
                 go_roundg k3
                 case measure=>have:=HK1.out;have:=HK2.out;have:=HK3.out;omega
                 case rel=>exact ⟨(wrap64 (x9_3+1)),(by first|rfl|(simp;done)|(simp [*];done)),H',⟨by have:=HK1.out;have:=HK2.out;have:=HK3.out;omega⟩,⟨by (with_reducible repeat (first|apply Kd.R_alloc|apply Kd.R_drewN|apply Kd.R_drew));exact HO_5.out⟩,⟨by repeat (first|(with_reducible first|exact HB.out|apply below_alloc|apply pw_below_drewN|apply below_drew1)|exact HB.out)⟩⟩
                ·
                 rw [if_neg c17] at H
                 have c17b0:((rdOf ByteArray.empty l0 x24_2).toList == (rdOf ByteArray.empty l0 x9_3).toList)=false:=beq_eq_false_iff_ne.mpr c17
                 have c17b1:((rdOf ByteArray.empty l0 x24_2).toList != (rdOf ByteArray.empty l0 x9_3).toList)=true:=bne_iff_ne.mpr c17
                 simp only [Option.some.injEq,Prod.mk.injEq] at H
                 obtain ⟨rfl,rfl,rfl⟩:=H
                 obtain ⟨Ao19,co19,eo19⟩:=Kd.R_slice HO_5.out
                 subst eo19
                 have p386:0≤(x24_2:Int):=of_decide_eq_true (by first|(with_reducible assumption)|assumption)
                 have q386:x24_2 < (x5_1.length:Int):=of_decide_eq_true (by first|(with_reducible assumption)|assumption)
                 obtain ⟨ad386,e386,hx386_0⟩:=Kd.at_string (Kd.R_reads' HO_5.out).2.2 x24_2 p386 q386
                 cases e386
                 replace p386:=eq_true p386
                 replace q386:=eq_true q386
                 have p387:0≤(x9_3:Int):=of_decide_eq_true (by first|(with_reducible assumption)|assumption)
                 have q387:x9_3 < (x5_1.length:Int):=of_decide_eq_true (by first|(with_reducible assumption)|assumption)
                 obtain ⟨ad387,e387,hx387_0⟩:=Kd.at_string (Kd.R_reads' HO_5.out).2.2 x9_3 p387 q387
                 obtain rfl:ad386=ad387:=(by injection e387)
                 replace p387:=eq_true p387
                 replace q387:=eq_true q387
                 have p388:0≤(x24_2:Int):=of_decide_eq_true (by first|(with_reducible assumption)|assumption)
                 have q388:x24_2 < (l0.length:Int):=of_decide_eq_true (by first|(with_reducible assumption)|assumption)
                 obtain ⟨ad388,e388,hx388_0⟩:=Kd.at_string HR0.out x24_2 p388 q388
                 cases e388
                 replace hx388_0:=(HB.out.cell (World.block_lt_of_cell? w _ hx388_0)).trans hx388_0
                 replace p388:=eq_true p388
                 replace q388:=eq_true q388
                 have p389:0≤(x9_3:Int):=of_decide_eq_true (by first|(with_reducible assumption)|assumption)
                 have q389:x9_3 < (l0.length:Int):=of_decide_eq_true (by first|(with_reducible assumption)|assumption)
                 obtain ⟨ad389,e389,hx389_0⟩:=Kd.at_string HR0.out x9_3 p389 q389
                 obtain rfl:ad388=ad389:=(by injection e389)
                 replace hx389_0:=(HB.out.cell (World.block_lt_of_cell? w _ hx389_0)).trans hx389_0
                 replace p389:=eq_true p389
                 replace q389:=eq_true q389
                 have p390:0≤(x24_2:Int):=of_decide_eq_true (by first|(with_reducible assumption)|assumption)
                 have q390:x24_2 < (l0.length:Int):=of_decide_eq_true (by first|(with_reducible assumption)|assumption)
                 obtain ⟨ad390,e390,hx390_0⟩:=Kd.at_string HR0.out x24_2 p390 q390
                 obtain rfl:ad388=ad390:=(by injection e390)
                 replace hx390_0:=(HB.out.cell (World.block_lt_of_cell? w _ hx390_0)).trans hx390_0
                 replace p390:=eq_true p390
                 replace q390:=eq_true q390
                 have p391:0≤(x9_3:Int):=of_decide_eq_true (by first|(with_reducible assumption)|assumption)
                 have q391:x9_3 < (l0.length:Int):=of_decide_eq_true (by first|(with_reducible assumption)|assumption)
                 obtain ⟨ad391,e391,hx391_0⟩:=Kd.at_string HR0.out x9_3 p391 q391
                 obtain rfl:ad388=ad391:=(by injection e391)
                 replace hx391_0:=(HB.out.cell (World.block_lt_of_cell? w _ hx391_0)).trans hx391_0
                 replace p391:=eq_true p391
                 replace q391:=eq_true q391
                 go_wp2
                 repeat (go_quiet (fail);try go_wp2)
                 go_ret3
                 exact ⟨by first|rfl|(simp [errW_none,errW_some] <;> rfl)|(simp [*,errW_none,errW_some] <;> rfl),by repeat (first|(with_reducible first|exact HB.out|apply below_alloc|apply pw_below_drewN|apply below_drew1)|exact HB.out)⟩
               ·
                rw [if_neg c16] at H
                exact absurd H (by simp)
              ·
               rw [if_neg c15] at H
               have c15b0:((rdOf ByteArray.empty x5_1 x24_2).toList == (rdOf ByteArray.empty x5_1 x9_3).toList)=false:=beq_eq_false_iff_ne.mpr c15
               have c15b1:((rdOf ByteArray.empty x5_1 x24_2).toList != (rdOf ByteArray.empty x5_1 x9_3).toList)=true:=bne_iff_ne.mpr c15
               have H':=Aside0.mk H
               clear H
               obtain ⟨Ao20,co20,eo20⟩:=Kd.R_slice HO_5.out
               subst eo20
               have p386:0≤(x24_2:Int):=of_decide_eq_true (by first|(with_reducible assumption)|assumption)
               have q386:x24_2 < (x5_1.length:Int):=of_decide_eq_true (by first|(with_reducible assumption)|assumption)
               obtain ⟨ad386,e386,hx386_0⟩:=Kd.at_string (Kd.R_reads' HO_5.out).2.2 x24_2 p386 q386
               cases e386
               replace p386:=eq_true p386
               replace q386:=eq_true q386
               have p387:0≤(x9_3:Int):=of_decide_eq_true (by first|(with_reducible assumption)|assumption)
               have q387:x9_3 < (x5_1.length:Int):=of_decide_eq_true (by first|(with_reducible assumption)|assumption)
               obtain ⟨ad387,e387,hx387_0⟩:=Kd.at_string (Kd.R_reads' HO_5.out).2.2 x9_3 p387 q387
               obtain rfl:ad386=ad387:=(by injection e387)
               replace p387:=eq_true p387
               replace q387:=eq_true q387
               go_wp2
               repeat (go_quiet (fail);try go_wp2)
               go_roundg k3
               case measure=>have:=HK1.out;have:=HK2.out;have:=HK3.out;omega
               case rel=>exact ⟨(wrap64 (x9_3+1)),(by first|rfl|(simp;done)|(simp [*];done)),H',⟨by have:=HK1.out;have:=HK2.out;have:=HK3.out;omega⟩,⟨by (with_reducible repeat (first|apply Kd.R_alloc|apply Kd.R_drewN|apply Kd.R_drew));exact HO_5.out⟩,⟨by repeat (first|(with_reducible first|exact HB.out|apply below_alloc|apply pw_below_drewN|apply below_drew1)|exact HB.out)⟩⟩
             ·
              rw [if_neg c14] at H
              exact absurd H (by simp)
            ·
             rw [if_neg c13] at H
             exact absurd H (by simp)
           ·
            rw [if_neg c12] at H
            exact absurd H (by simp)
          ·
           rw [if_neg c11] at H
           exact absurd H (by simp)
         ·
          rw [if_neg c10] at H
          have c10b0:decide (x9_3 < (l0.length:Int))=false:=decide_eq_false c10
          clear c10
          have H':=Aside0.mk H
          clear H
          go_wp2
          repeat (go_quiet (fail);try go_wp2)
          go_roundg k3
          case measure=>have:=HK1.out;have:=HK2.out;have:=HK3.out;omega
          case rel=>exact ⟨(wrap64 (x24_2+1)),(by first|rfl|(simp;done)|(simp [*];done)),H',⟨by have:=HK1.out;have:=HK2.out;have:=HK3.out;omega⟩,⟨by (with_reducible repeat (first|apply Kd.R_alloc|apply Kd.R_drewN|apply Kd.R_drew));exact HO_5.out⟩,⟨by repeat (first|(with_reducible first|exact HB.out|apply below_alloc|apply pw_below_drewN|apply below_drew1)|exact HB.out)⟩⟩
      ·
       rw [if_neg c9] at H
       have c9b0:decide (x24_2 < (l0.length:Int))=false:=decide_eq_false c9
       clear c9
       simp only [Option.some.injEq,Prod.mk.injEq] at H
       obtain ⟨rfl,rfl,rfl⟩:=H
       go_wp2
       repeat (go_quiet (fail);try go_wp2)
       go_ret3
       exact ⟨by first|rfl|(simp [errW_none,errW_some] <;> rfl)|(simp [*,errW_none,errW_some] <;> rfl),by repeat (first|(with_reducible first|exact HB.out|apply below_alloc|apply pw_below_drewN|apply below_drew1)|exact HB.out)⟩
end Go.Proofs.Ytelcaepenfjloaa.Print
/-! #### Pr58 -/
namespace Go.Proofs.Ytelcaepenfjloaa.Print
open Go.RowKit Go.Proofs.YtelcaepenfjloaaW.PrintWords Go.Proofs.YtelcaepenfjloaaW.PrintLast Go.Proofs.YtelcaepenfjloaaW.PrintMore
attribute [local go_sem] max2_int min2_int max_two min_two max_three min_three max_four min_four
set_option linter.unusedVariables false
set_option linter.unusedSimpArgs false
/-! ### mosaicref03_Witness: function 58 -/
mutual
def mosaicref03_Witness.l0:Nat→List ByteArray→Int→Option (ByteArray×ByteArray×Bool)
 | 0,_,_=>none
 | k+1,x0,x3=>if x3 < (x0.length:Int) then (mosaicref03_Witness.l1 k x0 x3 (wrap64 (x3+1))) else (some ((⟨#[]⟩:ByteArray),(⟨#[]⟩:ByteArray),false))
def mosaicref03_Witness.l1:Nat→List ByteArray→Int→Int→Option (ByteArray×ByteArray×Bool)
 | 0,_,_,_=>none
 | k+1,x0,x3,x4=>if x4 < (x0.length:Int) then (if 0≤x3 then (if x3 < (x0.length:Int) then (if 0≤x4 then (if (rdOf ByteArray.empty x0 x3).toList=(rdOf ByteArray.empty x0 x4).toList then (mosaicref03_Witness.l1 k x0 x3 (wrap64 (x4+1))) else ((mosaicref01_Sum.f k (rdOf ByteArray.empty x0 x3)).bind fun t396=>((mosaicref01_Sum.f k (rdOf ByteArray.empty x0 x4)).bind fun t398=>(if t396.toList=t398.toList then (some (rdOf ByteArray.empty x0 x3,rdOf ByteArray.empty x0 x4,true)) else (mosaicref03_Witness.l1 k x0 x3 (wrap64 (x4+1))))))) else (none)) else (none)) else (none)) else (mosaicref03_Witness.l0 k x0 (wrap64 (x3+1)))
end
def mosaicref03_Witness.f (k:Nat) (l0:List ByteArray):Option (ByteArray×ByteArray×Bool):=mosaicref03_Witness.l0 k l0 0
theorem mosaicref03_Witness.mono_l:∀ k,(∀ y0 y1,LeO (mosaicref03_Witness.l0 k y0 y1) (mosaicref03_Witness.l0 (k+1) y0 y1))∧(∀ y0 y1 y2,LeO (mosaicref03_Witness.l1 k y0 y1 y2) (mosaicref03_Witness.l1 (k+1) y0 y1 y2))
 | 0=>⟨fun _ _ r h=>by simp [mosaicref03_Witness.l0] at h,fun _ _ _ r h=>by simp [mosaicref03_Witness.l1] at h⟩
 | k+1=>by
  obtain ⟨ih0,ih1⟩:=mosaicref03_Witness.mono_l k
  refine ⟨?_,?_⟩
  ·
   intro y0 y1
   unfold mosaicref03_Witness.l0
   repeat' first
   | (with_reducible exact ih0 _ _)
   | (with_reducible exact ih1 _ _ _)
   | (with_reducible exact mosaicref01_Sum.mono _ _)
   | (with_reducible exact LeO.refl _)
   | (with_reducible exact LeO.none _)
   | (with_reducible refine LeO.ite ?_ ?_)
   | (with_reducible refine LeO.bind ?_ (fun _=>?_))
   | exact ih0 _ _
   | exact ih1 _ _ _
   | exact mosaicref01_Sum.mono _ _
   | exact LeO.none _
   | refine LeO.ite ?_ ?_
   | refine LeO.bind ?_ (fun _=>?_)
  ·
   intro y0 y1 y2
   unfold mosaicref03_Witness.l1
   repeat' first
   | (with_reducible exact ih0 _ _)
   | (with_reducible exact ih1 _ _ _)
   | (with_reducible exact mosaicref01_Sum.mono _ _)
   | (with_reducible exact LeO.refl _)
   | (with_reducible exact LeO.none _)
   | (with_reducible refine LeO.ite ?_ ?_)
   | (with_reducible refine LeO.bind ?_ (fun _=>?_))
   | exact ih0 _ _
   | exact ih1 _ _ _
   | exact mosaicref01_Sum.mono _ _
   | exact LeO.none _
   | refine LeO.ite ?_ ?_
   | refine LeO.bind ?_ (fun _=>?_)
theorem mosaicref03_Witness.mono:∀ a0 k,LeO (mosaicref03_Witness.f k a0) (mosaicref03_Witness.f (k+1) a0):=by
 intro a0 k
 obtain ⟨ih0,ih1⟩:=mosaicref03_Witness.mono_l k
 unfold mosaicref03_Witness.f
 repeat' first
   | (with_reducible exact ih0 _ _)
   | (with_reducible exact ih1 _ _ _)
   | (with_reducible exact mosaicref01_Sum.mono _ _)
   | (with_reducible exact LeO.refl _)
   | (with_reducible exact LeO.none _)
   | (with_reducible refine LeO.ite ?_ ?_)
   | (with_reducible refine LeO.bind ?_ (fun _=>?_))
   | exact ih0 _ _
   | exact ih1 _ _ _
   | exact mosaicref01_Sum.mono _ _
   | exact LeO.none _
   | refine LeO.ite ?_ ?_
   | refine LeO.bind ?_ (fun _=>?_)
def mosaicref03_Witness.T7:Bool×List (List Nat×List Nat):=(true,[([],[]),([],[]),([0,1],[0,1]),([2],[2]),([],[]),([],[]),([4,5],[4,5]),([6],[6]),([3,7],[3,7]),([8],[8]),([9],[9]),([9],[9]),([10,11,9],[9,10,11]),([12,9],[9,12]),([13,9,9],[9,13]),([9],[9]),([9],[9]),([15,16,9],[9,15,16]),([17,9],[9,17]),([18,14,9],[9,18]),([14,19,9],[9,14,19]),([9,20],[9,20])])
def mosaicref03_Witness.B7:List Nat:=[0,0,3,7,0,0,48,112,255,511,1023,1023,4095,8191,16383,1023,1023,99327,230399,524287,1048575,2097151]
theorem mosaicref03_Witness.tab7:rtab .any (opsOf Try.f58 7)=mosaicref03_Witness.T7:=by kernel_rfl
theorem mosaicref03_Witness.bits7:waitsOk mosaicref03_Witness.T7.2 mosaicref03_Witness.B7=true:=by kernel_rfl
def mosaicref03_Witness.T8:Bool×List (List Nat×List Nat):=(true,[([],[]),([],[]),([0,1],[0,1]),([2],[2]),([],[]),([],[]),([4,5],[4,5]),([6],[6]),([3,7],[3,7]),([8,0,1,2,3,4,5,6,7,8],[8])])
def mosaicref03_Witness.B8:List Nat:=[0,0,3,7,0,0,48,112,255,511]
theorem mosaicref03_Witness.tab8:rtab .any (opsOf Try.f58 8)=mosaicref03_Witness.T8:=by kernel_rfl
theorem mosaicref03_Witness.bits8:waitsOk mosaicref03_Witness.T8.2 mosaicref03_Witness.B8=true:=by kernel_rfl
set_option maxHeartbeats 8000000 in
set_option maxRecDepth 100000 in
theorem mosaicref03_Witness.calls (k:Nat) (A0:Option Addr) (c0:Nat) (l0:List ByteArray) (r1:ByteArray) (r2:ByteArray) (r3:Bool) (w:World) (hr0:Kd.C Kd.string w A0 l0.length l0) (hc0:l0.length≤c0) (h:mosaicref03_Witness.f k l0=some (r1,r2,r3)) :
  Calls Try.prog 58 #[.slice A0 l0.length c0] w fun e w'=>e=.returned (.agg #[.string r1,.string r2,.bool r3])∧Below w.heap.size w w':=by
 have hu67:=Try.underlying67
 have HR0:=Aside0.mk hr0
 have HC0:=Aside0.mk hc0
 clear hr0 hc0
 have HB:=Aside0.mk (Below.refl w.heap.size w)
 have H:(mosaicref03_Witness.l0 k l0 0)=some (r1,r2,r3):=h
 clear h
 have H':=Aside0.mk H
 clear H
 go_enter Try.func58,Try.ntmps58
 go_wp2_with (first|((with_reducible refine gate_dst (N:=2) rfl ?_);refine box_event ?hg (N:=2) ?hd (cs:=#[.string (⟨#[]⟩:ByteArray),.string (⟨#[]⟩:ByteArray),.bool false]) (t:=67) ?hr ?_;(case hd=>rfl);(case hg=>rfl);(case hr=>first|(go_simp;done)|(go_simp;rfl));intro gb392 hg w2 hbox hb;have n0_:=Aside0.mk (below_step (by repeat (first|(with_reducible first|exact HB.out|apply below_alloc|apply pw_below_drewN|apply below_drew1)|exact HB.out)) hb);have n1_:=Aside0.mk (hbox);have n2_:=Aside0.mk ((by rw [hg];exact (below_size (by repeat (first|(with_reducible first|exact HB.out|apply below_alloc|apply pw_below_drewN|apply below_drew1)|exact HB.out))):w.heap.size≤gb392));have n3_:=Aside0.mk ((by rw [hg];exact (below_size (by repeat (first|(with_reducible first|exact HB.out|apply below_alloc|apply pw_below_drewN|apply below_drew1)|exact HB.out))):w.heap.size≤gb392));clear HB;have HB:=n0_;have BK392:=n1_;have GW392:=n2_;have GE392:=n3_;clear n0_ n1_ n2_ n3_;clear hb hbox hg))
 go_loopg [3] k (fun kq v3 w'=>∃ (x3_1:Int) (x393000_1:ByteArray) (x393001_1:ByteArray) (x393002_1:Bool),v3=.int .i64 x3_1∧Aside0 (mosaicref03_Witness.l0 kq l0 x3_1=some (r1,r2,r3))∧Aside0 (kq≤k)∧Aside0 (w'.heap[gb392]?=some (.cells #[.string x393000_1,.string x393001_1,.bool x393002_1] 67 (0,0)))∧Aside0 (Below w.heap.size w w'))
 case atStart=>exact ⟨(0),((⟨#[]⟩:ByteArray)),((⟨#[]⟩:ByteArray)),(false),(by first|rfl|(simp;done)|(simp [*];done)),H',⟨Nat.le_refl _⟩,⟨by (with_reducible repeat (first|refine blk_drewN ?_ _|refine blk_drew ?_|refine blk_alloc ?_ _));exact BK392.out⟩,⟨by repeat (first|(with_reducible first|exact HB.out|apply below_alloc|apply pw_below_drewN|apply below_drew1|refine below_set ?_ GE392.out)|exact HB.out)⟩⟩
 case round =>
  clear H'
  try clear p2
  obtain ⟨x3_1,x393000_1,x393001_1,x393002_1,rfl,HA,HK1,BK392,HB⟩:=hrel
  cases gk with
  | zero=>exact absurd HA.out (by simp [mosaicref03_Witness.l0])
  | succ k1 =>
   have H:=HA.out
   clear HA
   simp only [mosaicref03_Witness.l0] at H
   by_cases c3:x3_1 < (l0.length:Int)
   ·
    rw [if_pos c3] at H
    have c3b0:decide (x3_1 < (l0.length:Int))=true:=decide_eq_true c3
    clear c3
    have H':=Aside0.mk H
    clear H
    go_wp2
    go_loopg [4] k1 (fun kq v4 w'=>∃ (x4_2:Int) (x393000_2:ByteArray) (x393001_2:ByteArray) (x393002_2:Bool),v4=.int .i64 x4_2∧Aside0 (mosaicref03_Witness.l1 kq l0 x3_1 x4_2=some (r1,r2,r3))∧Aside0 (kq≤k1)∧Aside0 (w'.heap[gb392]?=some (.cells #[.string x393000_2,.string x393001_2,.bool x393002_2] 67 (0,0)))∧Aside0 (Below w.heap.size w w'))
    case atStart=>exact ⟨(wrap64 (x3_1+1)),(x393000_1),(x393001_1),(x393002_1),(by first|rfl|(simp;done)|(simp [*];done)),H',⟨Nat.le_refl _⟩,⟨by (with_reducible repeat (first|refine blk_drewN ?_ _|refine blk_drew ?_|refine blk_alloc ?_ _));exact BK392.out⟩,⟨by repeat (first|(with_reducible first|exact HB.out|apply below_alloc|apply pw_below_drewN|apply below_drew1|refine below_set ?_ GE392.out)|exact HB.out)⟩⟩
    case round =>
     clear H'
     try clear p2
     try clear c3
     try clear c3b0
     try clear p2
     obtain ⟨x4_2,x393000_2,x393001_2,x393002_2,rfl,HA,HK2,BK392,HB⟩:=hrel
     cases gk with
     | zero=>exact absurd HA.out (by simp [mosaicref03_Witness.l1])
     | succ k2 =>
      have H:=HA.out
      clear HA
      simp only [mosaicref03_Witness.l1] at H
      by_cases c4:x4_2 < (l0.length:Int)
      ·
       rw [if_pos c4] at H
       have c4b0:decide (x4_2 < (l0.length:Int))=true:=decide_eq_true c4
       clear c4
       by_cases c5:0≤x3_1
       ·
        rw [if_pos c5] at H
        have c5b0:decide (0≤x3_1)=true:=decide_eq_true c5
        clear c5
        by_cases c6:x3_1 < (l0.length:Int)
        ·
         rw [if_pos c6] at H
         have c6b0:decide (x3_1 < (l0.length:Int))=true:=decide_eq_true c6
         clear c6
         by_cases c7:0≤x4_2
         ·
          rw [if_pos c7] at H
          have c7b0:decide (0≤x4_2)=true:=decide_eq_true c7
          clear c7
          by_cases c8:(rdOf ByteArray.empty l0 x3_1).toList=(rdOf ByteArray.empty l0 x4_2).toList
          ·
           rw [if_pos c8] at H
           have c8b0:((rdOf ByteArray.empty l0 x3_1).toList == (rdOf ByteArray.empty l0 x4_2).toList)=true:=beq_iff_eq.mpr c8
           have c8b1:((rdOf ByteArray.empty l0 x3_1).toList != (rdOf ByteArray.empty l0 x4_2).toList)=false:=bne_eq_false_iff_eq.mpr c8
           clear c8
           have H':=Aside0.mk H
           clear H
           try go_wp2
           have n0_:=Aside0.mk (blk_drew BK392.out)
           have n1_:=Aside0.mk (below_drew1 HB.out)
           clear BK392
           clear HB
           have BK392:=n0_
           have HB:=n1_
           clear n0_ n1_
           have p393:0≤(x3_1:Int):=of_decide_eq_true (by first|(with_reducible assumption)|assumption)
           have q393:x3_1 < (l0.length:Int):=of_decide_eq_true (by first|(with_reducible assumption)|assumption)
           obtain ⟨ad393,e393,hx393_0⟩:=Kd.at_string HR0.out x3_1 p393 q393
           have hw393_0:=hx393_0
           cases e393
           replace hx393_0:=(HB.out.cell (World.block_lt_of_cell? w _ hx393_0)).trans hx393_0
           replace p393:=eq_true p393
           replace q393:=eq_true q393
           have p394:0≤(x4_2:Int):=of_decide_eq_true (by first|(with_reducible assumption)|assumption)
           have q394:x4_2 < (l0.length:Int):=of_decide_eq_true (by first|(with_reducible assumption)|assumption)
           obtain ⟨ad394,e394,hx394_0⟩:=Kd.at_string HR0.out x4_2 p394 q394
           have hw394_0:=hx394_0
           obtain rfl:ad393=ad394:=(by injection e394)
           replace hx394_0:=(HB.out.cell (World.block_lt_of_cell? w _ hx394_0)).trans hx394_0
           replace p394:=eq_true p394
           replace q394:=eq_true q394
           refine start_ (n:=22) (S:=fun w'=>w'.cell? (ad393.add (x3_1).toNat)=some (.string (rdOf ByteArray.empty l0 x3_1))∧w'.cell? (ad393.add (x4_2).toNat)=some (.string (rdOf ByteArray.empty l0 x4_2))) (ds:=[]) #[false,false,false,false,false,false,false,false,false,false,false,false,false,false,false,false,false,false,false,false,false,false] (by kernel_rfl) rfl rfl ⟨((HB.out.cell (World.block_lt_of_cell? w _ hw393_0)).trans hw393_0),((HB.out.cell (World.block_lt_of_cell? w _ hw394_0)).trans hw394_0)⟩ (fun hHeld=>?_);refine with_tabW mosaicref03_Witness.tab7 mosaicref03_Witness.bits7 (fun HT_ HW_=>?_)
           generalize wr.drew=w9 at BK392 HB hx393_0 hx394_0 hHeld ⊢
           refine pure_ (i:=0) (N:=some 19) (v:=?_) (a':=?_) #[true,false,false,false,false,false,false,false,false,false,false,false,false,false,false,false,false,false,false,false,false,false] rfl rfl (any_of HT_.out (by kernel_rfl)) (fun _ _ _ h=>h) (Or.inl ⟨by rfl,?_⟩) ?_ ?_
           rotate_left
           ·
            intro w'
            go_simp
            with_reducible rfl
           rotate_left
           ·
            simp only [Act.put,List.setIfInBounds_toArray,List.set_cons_zero,List.set_cons_succ,i64_w,i32_w]
            rfl
           refine pure_ (i:=1) (N:=some 20) (v:=?_) (a':=?_) #[true,true,false,false,false,false,false,false,false,false,false,false,false,false,false,false,false,false,false,false,false,false] rfl rfl (any_of HT_.out (by kernel_rfl)) (fun _ _ _ h=>h) (Or.inl ⟨by rfl,?_⟩) ?_ ?_
           rotate_left
           ·
            intro w'
            go_simp
            with_reducible rfl
           rotate_left
           ·
            simp only [Act.put,List.setIfInBounds_toArray,List.set_cons_zero,List.set_cons_succ,i64_w,i32_w]
            rfl
           refine pure_ (i:=2) (N:=some 21) (v:=?_) (a':=?_) #[true,true,true,false,false,false,false,false,false,false,false,false,false,false,false,false,false,false,false,false,false,false] rfl rfl (any_of HT_.out (by kernel_rfl)) (fun _ _ _ h=>h) (Or.inl ⟨by rfl,?_⟩) ?_ ?_
           rotate_left
           ·
            intro w'
            go_simp
            with_reducible rfl
           rotate_left
           ·
            simp only [Act.put,List.setIfInBounds_toArray,List.set_cons_zero,List.set_cons_succ,i64_w,i32_w]
            rfl
           refine pure_ (i:=4) (N:=some 23) (v:=?_) (a':=?_) #[true,true,true,false,true,false,false,false,false,false,false,false,false,false,false,false,false,false,false,false,false,false] rfl rfl (any_of HT_.out (by kernel_rfl)) (fun _ _ _ h=>h) (Or.inl ⟨by rfl,?_⟩) ?_ ?_
           rotate_left
           ·
            intro w'
            go_simp
            with_reducible rfl
           rotate_left
           ·
            simp only [Act.put,List.setIfInBounds_toArray,List.set_cons_zero,List.set_cons_succ,i64_w,i32_w]
            rfl
           refine pure_ (i:=5) (N:=some 24) (v:=?_) (a':=?_) #[true,true,true,false,true,true,false,false,false,false,false,false,false,false,false,false,false,false,false,false,false,false] rfl rfl (any_of HT_.out (by kernel_rfl)) (fun _ _ _ h=>h) (Or.inl ⟨by rfl,?_⟩) ?_ ?_
           rotate_left
           ·
            intro w'
            go_simp
            with_reducible rfl
           rotate_left
           ·
            simp only [Act.put,List.setIfInBounds_toArray,List.set_cons_zero,List.set_cons_succ,i64_w,i32_w]
            rfl
           refine pure_ (i:=6) (N:=some 25) (v:=?_) (a':=?_) #[true,true,true,false,true,true,true,false,false,false,false,false,false,false,false,false,false,false,false,false,false,false] rfl rfl (any_of HT_.out (by kernel_rfl)) (fun _ _ _ h=>h) (Or.inl ⟨by rfl,?_⟩) ?_ ?_
           rotate_left
           ·
            intro w'
            go_simp
            with_reducible rfl
           rotate_left
           ·
            simp only [Act.put,List.setIfInBounds_toArray,List.set_cons_zero,List.set_cons_succ,i64_w,i32_w]
            rfl
           refine take_ (i:=3) (N:=some 22) (v:=?_) (a':=?_) #[true,true,true,true,true,true,true,false,false,false,false,false,false,false,false,false,false,false,false,false,false,false] rfl rfl (take_ofW HT_.out HW_.out (by kernel_rfl)) (fun _ _ _ h=>h) (Or.inl ⟨by rfl,?_⟩) hHeld ?_ ?_
           rotate_left
           ·
            rintro w' ⟨s0,s1⟩
            go_simp
            with_reducible rfl
           rotate_left
           ·
            simp only [Act.put,List.setIfInBounds_toArray,List.set_cons_zero,List.set_cons_succ,i64_w,i32_w]
            rfl
           refine take_ (i:=7) (N:=some 26) (v:=?_) (a':=?_) #[true,true,true,true,true,true,true,true,false,false,false,false,false,false,false,false,false,false,false,false,false,false] rfl rfl (take_ofW HT_.out HW_.out (by kernel_rfl)) (fun _ _ _ h=>h) (Or.inl ⟨by rfl,?_⟩) hHeld ?_ ?_
           rotate_left
           ·
            rintro w' ⟨s0,s1⟩
            go_simp
            with_reducible rfl
           rotate_left
           ·
            simp only [Act.put,List.setIfInBounds_toArray,List.set_cons_zero,List.set_cons_succ,i64_w,i32_w]
            rfl
           refine pure_ (i:=8) (N:=some 27) (v:=?_) (a':=?_) #[true,true,true,true,true,true,true,true,true,false,false,false,false,false,false,false,false,false,false,false,false,false] rfl rfl (any_of HT_.out (by kernel_rfl)) (fun _ _ _ h=>h) (Or.inl ⟨by rfl,?_⟩) ?_ ?_
           rotate_left
           ·
            intro w'
            go_simp
            with_reducible rfl
           rotate_left
           ·
            simp only [Act.put,List.setIfInBounds_toArray,List.set_cons_zero,List.set_cons_succ,i64_w,i32_w]
            rfl
           refine pure_ (i:=9) (N:=some 28) (v:=?_) (a':=?_) #[true,true,true,true,true,true,true,true,true,true,false,false,false,false,false,false,false,false,false,false,false,false] rfl rfl (any_of HT_.out (by kernel_rfl)) (fun _ _ _ h=>h) (Or.inl ⟨by rfl,?_⟩) ?_ ?_
           rotate_left
           ·
            intro w'
            go_simp
            with_reducible rfl
           rotate_left
           ·
            simp only [Act.put,List.setIfInBounds_toArray,List.set_cons_zero,List.set_cons_succ,i64_w,i32_w]
            rfl
           refine pure_ (i:=10) (N:=some 29) (v:=undef) (a':=?_) #[true,true,true,true,true,true,true,true,true,true,true,false,false,false,false,false,false,false,false,false,false,false] rfl rfl (any_of HT_.out (by kernel_rfl)) (fun _ _ _ h=>h) (Or.inr ⟨by rfl,rfl⟩) ?_ ?_
           rotate_left
           ·
            simp only [Act.put,List.setIfInBounds_toArray,List.set_cons_zero,List.set_cons_succ,i64_w,i32_w]
            rfl
           refine pure_ (i:=11) (N:=some 30) (v:=undef) (a':=?_) #[true,true,true,true,true,true,true,true,true,true,true,true,false,false,false,false,false,false,false,false,false,false] rfl rfl (any_of HT_.out (by kernel_rfl)) (fun _ _ _ h=>h) (Or.inr ⟨by rfl,rfl⟩) ?_ ?_
           rotate_left
           ·
            simp only [Act.put,List.setIfInBounds_toArray,List.set_cons_zero,List.set_cons_succ,i64_w,i32_w]
            rfl
           refine pure_ (i:=12) (N:=some 31) (v:=undef) (a':=?_) #[true,true,true,true,true,true,true,true,true,true,true,true,true,false,false,false,false,false,false,false,false,false] rfl rfl (any_of HT_.out (by kernel_rfl)) (fun _ _ _ h=>h) (Or.inr ⟨by rfl,rfl⟩) ?_ ?_
           rotate_left
           ·
            simp only [Act.put,List.setIfInBounds_toArray,List.set_cons_zero,List.set_cons_succ,i64_w,i32_w]
            rfl
           refine pure_ (i:=13) (N:=some 32) (v:=undef) (a':=?_) #[true,true,true,true,true,true,true,true,true,true,true,true,true,true,false,false,false,false,false,false,false,false] rfl rfl (any_of HT_.out (by kernel_rfl)) (fun _ _ _ h=>h) (Or.inr ⟨by rfl,rfl⟩) ?_ ?_
           rotate_left
           ·
            simp only [Act.put,List.setIfInBounds_toArray,List.set_cons_zero,List.set_cons_succ,i64_w,i32_w]
            rfl
           refine pure_ (i:=14) (N:=some 33) (v:=undef) (a':=?_) #[true,true,true,true,true,true,true,true,true,true,true,true,true,true,true,false,false,false,false,false,false,false] rfl rfl (any_of HT_.out (by kernel_rfl)) (fun _ _ _ h=>h) (Or.inr ⟨by rfl,rfl⟩) ?_ ?_
           rotate_left
           ·
            simp only [Act.put,List.setIfInBounds_toArray,List.set_cons_zero,List.set_cons_succ,i64_w,i32_w]
            rfl
           refine pure_ (i:=15) (N:=some 34) (v:=undef) (a':=?_) #[true,true,true,true,true,true,true,true,true,true,true,true,true,true,true,true,false,false,false,false,false,false] rfl rfl (any_of HT_.out (by kernel_rfl)) (fun _ _ _ h=>h) (Or.inr ⟨by rfl,rfl⟩) ?_ ?_
           rotate_left
           ·
            simp only [Act.put,List.setIfInBounds_toArray,List.set_cons_zero,List.set_cons_succ,i64_w,i32_w]
            rfl
           refine pure_ (i:=16) (N:=some 35) (v:=undef) (a':=?_) #[true,true,true,true,true,true,true,true,true,true,true,true,true,true,true,true,true,false,false,false,false,false] rfl rfl (any_of HT_.out (by kernel_rfl)) (fun _ _ _ h=>h) (Or.inr ⟨by rfl,rfl⟩) ?_ ?_
           rotate_left
           ·
            simp only [Act.put,List.setIfInBounds_toArray,List.set_cons_zero,List.set_cons_succ,i64_w,i32_w]
            rfl
           refine pure_ (i:=17) (N:=some 36) (v:=undef) (a':=?_) #[true,true,true,true,true,true,true,true,true,true,true,true,true,true,true,true,true,true,false,false,false,false] rfl rfl (any_of HT_.out (by kernel_rfl)) (fun _ _ _ h=>h) (Or.inr ⟨by rfl,rfl⟩) ?_ ?_
           rotate_left
           ·
            simp only [Act.put,List.setIfInBounds_toArray,List.set_cons_zero,List.set_cons_succ,i64_w,i32_w]
            rfl
           refine pure_ (i:=18) (N:=some 37) (v:=undef) (a':=?_) #[true,true,true,true,true,true,true,true,true,true,true,true,true,true,true,true,true,true,true,false,false,false] rfl rfl (any_of HT_.out (by kernel_rfl)) (fun _ _ _ h=>h) (Or.inr ⟨by rfl,rfl⟩) ?_ ?_
           rotate_left
           ·
            simp only [Act.put,List.setIfInBounds_toArray,List.set_cons_zero,List.set_cons_succ,i64_w,i32_w]
            rfl
           refine pure_ (i:=19) (N:=some 38) (v:=undef) (a':=?_) #[true,true,true,true,true,true,true,true,true,true,true,true,true,true,true,true,true,true,true,true,false,false] rfl rfl (any_of HT_.out (by kernel_rfl)) (fun _ _ _ h=>h) (Or.inr ⟨by rfl,rfl⟩) ?_ ?_
           rotate_left
           ·
            simp only [Act.put,List.setIfInBounds_toArray,List.set_cons_zero,List.set_cons_succ,i64_w,i32_w]
            rfl
           refine pure_ (i:=20) (N:=some 39) (v:=undef) (a':=?_) #[true,true,true,true,true,true,true,true,true,true,true,true,true,true,true,true,true,true,true,true,true,false] rfl rfl (any_of HT_.out (by kernel_rfl)) (fun _ _ _ h=>h) (Or.inr ⟨by rfl,rfl⟩) ?_ ?_
           rotate_left
           ·
            simp only [Act.put,List.setIfInBounds_toArray,List.set_cons_zero,List.set_cons_succ,i64_w,i32_w]
            rfl
           refine pure_ (i:=21) (N:=some 40) (v:=?_) (a':=?_) #[true,true,true,true,true,true,true,true,true,true,true,true,true,true,true,true,true,true,true,true,true,true] rfl rfl (any_of HT_.out (by kernel_rfl)) (fun _ _ _ h=>h) (Or.inl ⟨by rfl,?_⟩) ?_ ?_
           rotate_left
           ·
            intro w'
            go_simp
            with_reducible rfl
           rotate_left
           ·
            simp only [Act.put,List.setIfInBounds_toArray,List.set_cons_zero,List.set_cons_succ,i64_w,i32_w]
            rfl
           refine done_ (done_of HT_.out (by kernel_rfl)) ?_
           try go_wp2
           go_roundg k2
           case measure=>have:=HK1.out;have:=HK2.out;omega
           case rel=>exact ⟨(wrap64 (x4_2+1)),(x393000_2),(x393001_2),(x393002_2),(by first|rfl|(simp;done)|(simp [*];done)),H',⟨by have:=HK1.out;have:=HK2.out;omega⟩,⟨by (with_reducible repeat (first|refine blk_drewN ?_ _|refine blk_drew ?_|refine blk_alloc ?_ _));exact BK392.out⟩,⟨by repeat (first|(with_reducible first|exact HB.out|apply below_alloc|apply pw_below_drewN|apply below_drew1|refine below_set ?_ GE392.out)|exact HB.out)⟩⟩
          ·
           rw [if_neg c8] at H
           have c8b0:((rdOf ByteArray.empty l0 x3_1).toList == (rdOf ByteArray.empty l0 x4_2).toList)=false:=beq_eq_false_iff_ne.mpr c8
           have c8b1:((rdOf ByteArray.empty l0 x3_1).toList != (rdOf ByteArray.empty l0 x4_2).toList)=true:=bne_iff_ne.mpr c8
           replace H:=Option.bind_eq_some_iff.mp H
           obtain ⟨t396,A100,H⟩:=H
           replace H:((mosaicref01_Sum.f k2 (rdOf ByteArray.empty l0 x4_2)).bind fun t398=>(if t396.toList=t398.toList then (some (rdOf ByteArray.empty l0 x3_1,rdOf ByteArray.empty l0 x4_2,true)) else (mosaicref03_Witness.l1 k2 l0 x3_1 (wrap64 (x4_2+1)))))=some (r1,r2,r3):=H
           have A10:=Aside0.mk A100
           clear A100
           replace H:=Option.bind_eq_some_iff.mp H
           obtain ⟨t398,A110,H⟩:=H
           replace H:(if t396.toList=t398.toList then (some (rdOf ByteArray.empty l0 x3_1,rdOf ByteArray.empty l0 x4_2,true)) else (mosaicref03_Witness.l1 k2 l0 x3_1 (wrap64 (x4_2+1))))=some (r1,r2,r3):=H
           have A11:=Aside0.mk A110
           clear A110
           by_cases c12:t396.toList=t398.toList
           ·
            rw [if_pos c12] at H
            have c12b0:(t396.toList == t398.toList)=true:=beq_iff_eq.mpr c12
            have c12b1:(t396.toList != t398.toList)=false:=bne_eq_false_iff_eq.mpr c12
            clear c12
            simp only [Option.some.injEq,Prod.mk.injEq] at H
            obtain ⟨rfl,rfl,rfl⟩:=H
            try go_wp2
            have n0_:=Aside0.mk (blk_drew BK392.out)
            have n1_:=Aside0.mk (below_drew1 HB.out)
            clear BK392
            clear HB
            have BK392:=n0_
            have HB:=n1_
            clear n0_ n1_
            have p393:0≤(x3_1:Int):=of_decide_eq_true (by first|(with_reducible assumption)|assumption)
            have q393:x3_1 < (l0.length:Int):=of_decide_eq_true (by first|(with_reducible assumption)|assumption)
            obtain ⟨ad393,e393,hx393_0⟩:=Kd.at_string HR0.out x3_1 p393 q393
            have hw393_0:=hx393_0
            cases e393
            replace hx393_0:=(HB.out.cell (World.block_lt_of_cell? w _ hx393_0)).trans hx393_0
            replace p393:=eq_true p393
            replace q393:=eq_true q393
            have p394:0≤(x4_2:Int):=of_decide_eq_true (by first|(with_reducible assumption)|assumption)
            have q394:x4_2 < (l0.length:Int):=of_decide_eq_true (by first|(with_reducible assumption)|assumption)
            obtain ⟨ad394,e394,hx394_0⟩:=Kd.at_string HR0.out x4_2 p394 q394
            have hw394_0:=hx394_0
            obtain rfl:ad393=ad394:=(by injection e394)
            replace hx394_0:=(HB.out.cell (World.block_lt_of_cell? w _ hx394_0)).trans hx394_0
            replace p394:=eq_true p394
            replace q394:=eq_true q394
            have p395:0≤(x3_1:Int):=of_decide_eq_true (by first|(with_reducible assumption)|assumption)
            have q395:x3_1 < (l0.length:Int):=of_decide_eq_true (by first|(with_reducible assumption)|assumption)
            obtain ⟨ad395,e395,hx395_0⟩:=Kd.at_string HR0.out x3_1 p395 q395
            have hw395_0:=hx395_0
            obtain rfl:ad393=ad395:=(by injection e395)
            replace hx395_0:=(HB.out.cell (World.block_lt_of_cell? w _ hx395_0)).trans hx395_0
            replace p395:=eq_true p395
            replace q395:=eq_true q395
            have p397:0≤(x4_2:Int):=of_decide_eq_true (by first|(with_reducible assumption)|assumption)
            have q397:x4_2 < (l0.length:Int):=of_decide_eq_true (by first|(with_reducible assumption)|assumption)
            obtain ⟨ad397,e397,hx397_0⟩:=Kd.at_string HR0.out x4_2 p397 q397
            have hw397_0:=hx397_0
            obtain rfl:ad393=ad397:=(by injection e397)
            replace hx397_0:=(HB.out.cell (World.block_lt_of_cell? w _ hx397_0)).trans hx397_0
            replace p397:=eq_true p397
            replace q397:=eq_true q397
            refine start_ (n:=22) (S:=fun w'=>w'.cell? (ad393.add (x3_1).toNat)=some (.string (rdOf ByteArray.empty l0 x3_1))∧w'.cell? (ad393.add (x4_2).toNat)=some (.string (rdOf ByteArray.empty l0 x4_2))∧w'.cell? (ad393.add (x3_1).toNat)=some (.string (rdOf ByteArray.empty l0 x3_1))∧w'.cell? (ad393.add (x4_2).toNat)=some (.string (rdOf ByteArray.empty l0 x4_2))) (ds:=[]) #[false,false,false,false,false,false,false,false,false,false,false,false,false,false,false,false,false,false,false,false,false,false] (by kernel_rfl) rfl rfl ⟨((HB.out.cell (World.block_lt_of_cell? w _ hw393_0)).trans hw393_0),((HB.out.cell (World.block_lt_of_cell? w _ hw394_0)).trans hw394_0),((HB.out.cell (World.block_lt_of_cell? w _ hw395_0)).trans hw395_0),((HB.out.cell (World.block_lt_of_cell? w _ hw397_0)).trans hw397_0)⟩ (fun hHeld=>?_);refine with_tabW mosaicref03_Witness.tab7 mosaicref03_Witness.bits7 (fun HT_ HW_=>?_)
            generalize wr.drew=w13 at BK392 HB hx393_0 hx394_0 hx395_0 hx397_0 hHeld ⊢
            refine pure_ (i:=0) (N:=some 19) (v:=?_) (a':=?_) #[true,false,false,false,false,false,false,false,false,false,false,false,false,false,false,false,false,false,false,false,false,false] rfl rfl (any_of HT_.out (by kernel_rfl)) (fun _ _ _ h=>h) (Or.inl ⟨by rfl,?_⟩) ?_ ?_
            rotate_left
            ·
             intro w'
             go_simp
             with_reducible rfl
            rotate_left
            ·
             simp only [Act.put,List.setIfInBounds_toArray,List.set_cons_zero,List.set_cons_succ,i64_w,i32_w]
             rfl
            refine pure_ (i:=1) (N:=some 20) (v:=?_) (a':=?_) #[true,true,false,false,false,false,false,false,false,false,false,false,false,false,false,false,false,false,false,false,false,false] rfl rfl (any_of HT_.out (by kernel_rfl)) (fun _ _ _ h=>h) (Or.inl ⟨by rfl,?_⟩) ?_ ?_
            rotate_left
            ·
             intro w'
             go_simp
             with_reducible rfl
            rotate_left
            ·
             simp only [Act.put,List.setIfInBounds_toArray,List.set_cons_zero,List.set_cons_succ,i64_w,i32_w]
             rfl
            refine pure_ (i:=2) (N:=some 21) (v:=?_) (a':=?_) #[true,true,true,false,false,false,false,false,false,false,false,false,false,false,false,false,false,false,false,false,false,false] rfl rfl (any_of HT_.out (by kernel_rfl)) (fun _ _ _ h=>h) (Or.inl ⟨by rfl,?_⟩) ?_ ?_
            rotate_left
            ·
             intro w'
             go_simp
             with_reducible rfl
            rotate_left
            ·
             simp only [Act.put,List.setIfInBounds_toArray,List.set_cons_zero,List.set_cons_succ,i64_w,i32_w]
             rfl
            refine pure_ (i:=4) (N:=some 23) (v:=?_) (a':=?_) #[true,true,true,false,true,false,false,false,false,false,false,false,false,false,false,false,false,false,false,false,false,false] rfl rfl (any_of HT_.out (by kernel_rfl)) (fun _ _ _ h=>h) (Or.inl ⟨by rfl,?_⟩) ?_ ?_
            rotate_left
            ·
             intro w'
             go_simp
             with_reducible rfl
            rotate_left
            ·
             simp only [Act.put,List.setIfInBounds_toArray,List.set_cons_zero,List.set_cons_succ,i64_w,i32_w]
             rfl
            refine pure_ (i:=5) (N:=some 24) (v:=?_) (a':=?_) #[true,true,true,false,true,true,false,false,false,false,false,false,false,false,false,false,false,false,false,false,false,false] rfl rfl (any_of HT_.out (by kernel_rfl)) (fun _ _ _ h=>h) (Or.inl ⟨by rfl,?_⟩) ?_ ?_
            rotate_left
            ·
             intro w'
             go_simp
             with_reducible rfl
            rotate_left
            ·
             simp only [Act.put,List.setIfInBounds_toArray,List.set_cons_zero,List.set_cons_succ,i64_w,i32_w]
             rfl
            refine pure_ (i:=6) (N:=some 25) (v:=?_) (a':=?_) #[true,true,true,false,true,true,true,false,false,false,false,false,false,false,false,false,false,false,false,false,false,false] rfl rfl (any_of HT_.out (by kernel_rfl)) (fun _ _ _ h=>h) (Or.inl ⟨by rfl,?_⟩) ?_ ?_
            rotate_left
            ·
             intro w'
             go_simp
             with_reducible rfl
            rotate_left
            ·
             simp only [Act.put,List.setIfInBounds_toArray,List.set_cons_zero,List.set_cons_succ,i64_w,i32_w]
             rfl
            refine take_ (i:=3) (N:=some 22) (v:=?_) (a':=?_) #[true,true,true,true,true,true,true,false,false,false,false,false,false,false,false,false,false,false,false,false,false,false] rfl rfl (take_ofW HT_.out HW_.out (by kernel_rfl)) (fun _ _ _ h=>h) (Or.inl ⟨by rfl,?_⟩) hHeld ?_ ?_
            rotate_left
            ·
             rintro w' ⟨s0,s1,s2,s3⟩
             go_simp
             with_reducible rfl
            rotate_left
            ·
             simp only [Act.put,List.setIfInBounds_toArray,List.set_cons_zero,List.set_cons_succ,i64_w,i32_w]
             rfl
            refine take_ (i:=7) (N:=some 26) (v:=?_) (a':=?_) #[true,true,true,true,true,true,true,true,false,false,false,false,false,false,false,false,false,false,false,false,false,false] rfl rfl (take_ofW HT_.out HW_.out (by kernel_rfl)) (fun _ _ _ h=>h) (Or.inl ⟨by rfl,?_⟩) hHeld ?_ ?_
            rotate_left
            ·
             rintro w' ⟨s0,s1,s2,s3⟩
             go_simp
             with_reducible rfl
            rotate_left
            ·
             simp only [Act.put,List.setIfInBounds_toArray,List.set_cons_zero,List.set_cons_succ,i64_w,i32_w]
             rfl
            refine pure_ (i:=8) (N:=some 27) (v:=?_) (a':=?_) #[true,true,true,true,true,true,true,true,true,false,false,false,false,false,false,false,false,false,false,false,false,false] rfl rfl (any_of HT_.out (by kernel_rfl)) (fun _ _ _ h=>h) (Or.inl ⟨by rfl,?_⟩) ?_ ?_
            rotate_left
            ·
             intro w'
             go_simp
             with_reducible rfl
            rotate_left
            ·
             simp only [Act.put,List.setIfInBounds_toArray,List.set_cons_zero,List.set_cons_succ,i64_w,i32_w]
             rfl
            refine pure_ (i:=9) (N:=some 28) (v:=?_) (a':=?_) #[true,true,true,true,true,true,true,true,true,true,false,false,false,false,false,false,false,false,false,false,false,false] rfl rfl (any_of HT_.out (by kernel_rfl)) (fun _ _ _ h=>h) (Or.inl ⟨by rfl,?_⟩) ?_ ?_
            rotate_left
            ·
             intro w'
             go_simp
             with_reducible rfl
            rotate_left
            ·
             simp only [Act.put,List.setIfInBounds_toArray,List.set_cons_zero,List.set_cons_succ,i64_w,i32_w]
             rfl
            refine pure_ (i:=10) (N:=some 29) (v:=?_) (a':=?_) #[true,true,true,true,true,true,true,true,true,true,true,false,false,false,false,false,false,false,false,false,false,false] rfl rfl (any_of HT_.out (by kernel_rfl)) (fun _ _ _ h=>h) (Or.inl ⟨by rfl,?_⟩) ?_ ?_
            rotate_left
            ·
             intro w'
             go_simp
             with_reducible rfl
            rotate_left
            ·
             simp only [Act.put,List.setIfInBounds_toArray,List.set_cons_zero,List.set_cons_succ,i64_w,i32_w]
             rfl
            refine pure_ (i:=11) (N:=some 30) (v:=?_) (a':=?_) #[true,true,true,true,true,true,true,true,true,true,true,true,false,false,false,false,false,false,false,false,false,false] rfl rfl (any_of HT_.out (by kernel_rfl)) (fun _ _ _ h=>h) (Or.inl ⟨by rfl,?_⟩) ?_ ?_
            rotate_left
            ·
             intro w'
             go_simp
             with_reducible rfl
            rotate_left
            ·
             simp only [Act.put,List.setIfInBounds_toArray,List.set_cons_zero,List.set_cons_succ,i64_w,i32_w]
             rfl
            refine pure_ (i:=12) (N:=some 31) (v:=?_) (a':=?_) #[true,true,true,true,true,true,true,true,true,true,true,true,true,false,false,false,false,false,false,false,false,false] rfl rfl (any_of HT_.out (by kernel_rfl)) (fun _ _ _ h=>h) (Or.inl ⟨by rfl,?_⟩) ?_ ?_
            rotate_left
            ·
             intro w'
             go_simp
             with_reducible rfl
            rotate_left
            ·
             simp only [Act.put,List.setIfInBounds_toArray,List.set_cons_zero,List.set_cons_succ,i64_w,i32_w]
             rfl
            refine pure_ (i:=15) (N:=some 34) (v:=?_) (a':=?_) #[true,true,true,true,true,true,true,true,true,true,true,true,true,false,false,true,false,false,false,false,false,false] rfl rfl (any_of HT_.out (by kernel_rfl)) (fun _ _ _ h=>h) (Or.inl ⟨by rfl,?_⟩) ?_ ?_
            rotate_left
            ·
             intro w'
             go_simp
             with_reducible rfl
            rotate_left
            ·
             simp only [Act.put,List.setIfInBounds_toArray,List.set_cons_zero,List.set_cons_succ,i64_w,i32_w]
             rfl
            refine pure_ (i:=16) (N:=some 35) (v:=?_) (a':=?_) #[true,true,true,true,true,true,true,true,true,true,true,true,true,false,false,true,true,false,false,false,false,false] rfl rfl (any_of HT_.out (by kernel_rfl)) (fun _ _ _ h=>h) (Or.inl ⟨by rfl,?_⟩) ?_ ?_
            rotate_left
            ·
             intro w'
             go_simp
             with_reducible rfl
            rotate_left
            ·
             simp only [Act.put,List.setIfInBounds_toArray,List.set_cons_zero,List.set_cons_succ,i64_w,i32_w]
             rfl
            refine pure_ (i:=17) (N:=some 36) (v:=?_) (a':=?_) #[true,true,true,true,true,true,true,true,true,true,true,true,true,false,false,true,true,true,false,false,false,false] rfl rfl (any_of HT_.out (by kernel_rfl)) (fun _ _ _ h=>h) (Or.inl ⟨by rfl,?_⟩) ?_ ?_
            rotate_left
            ·
             intro w'
             go_simp
             with_reducible rfl
            rotate_left
            ·
             simp only [Act.put,List.setIfInBounds_toArray,List.set_cons_zero,List.set_cons_succ,i64_w,i32_w]
             rfl
            refine take_ (i:=13) (N:=some 32) (v:=?_) (a':=?_) #[true,true,true,true,true,true,true,true,true,true,true,true,true,true,false,true,true,true,false,false,false,false] rfl rfl (take_ofW HT_.out HW_.out (by kernel_rfl)) (fun _ _ _ h=>h) (Or.inl ⟨by rfl,?_⟩) hHeld ?_ ?_
            rotate_left
            ·
             rintro w' ⟨s0,s1,s2,s3⟩
             go_simp
             with_reducible rfl
            rotate_left
            ·
             simp only [Act.put,List.setIfInBounds_toArray,List.set_cons_zero,List.set_cons_succ,i64_w,i32_w]
             rfl
            refine take_ (i:=18) (N:=some 37) (v:=?_) (a':=?_) #[true,true,true,true,true,true,true,true,true,true,true,true,true,true,false,true,true,true,true,false,false,false] rfl rfl (take_ofW HT_.out HW_.out (by kernel_rfl)) (fun _ _ _ h=>h) (Or.inl ⟨by rfl,?_⟩) hHeld ?_ ?_
            rotate_left
            ·
             rintro w' ⟨s0,s1,s2,s3⟩
             go_simp
             with_reducible rfl
            rotate_left
            ·
             simp only [Act.put,List.setIfInBounds_toArray,List.set_cons_zero,List.set_cons_succ,i64_w,i32_w]
             rfl
            refine one_ (i:=14) (N:=some 33) #[true,true,true,true,true,true,true,true,true,true,true,true,true,true,true,true,true,true,true,false,false,false] rfl rfl (one_of HT_.out (by kernel_rfl)) (by decide) (fun K hK=>?_)
            refine goes_ Try.func27 (by kernel_rfl) rfl #[.string (rdOf ByteArray.empty l0 x3_1)] (by rfl) rfl rfl (by (try simp only [List.map_toArray,List.map_cons,List.map_nil]);first|done|rfl|(simp only [List.length_drop,List.length_take];rfl)) ?_
            with_reducible refine (mosaicref01_Sum.calls k2 (rdOf ByteArray.empty l0 x3_1) t396 _ A10.out).mono ?_
            rintro e w14 ⟨rfl,hb⟩
            refine ⟨_,rfl,?_⟩
            have n0_:=Aside0.mk (blk_below (g:=gb392) (o:=.cells #[.string x393000_2,.string x393001_2,.bool x393002_2] 67 (0,0)) (by (with_reducible repeat (first|refine blk_drewN ?_ _|refine blk_drew ?_|refine blk_alloc ?_ _));exact BK392.out) hb)
            have n1_:=Aside0.mk (below_step (by repeat (first|(with_reducible first|exact HB.out|apply below_alloc|apply pw_below_drewN|apply below_drew1|refine below_set ?_ GE392.out)|exact HB.out)) hb)
            clear BK392
            clear HB
            have BK392:=n0_
            have HB:=n1_
            clear n0_ n1_
            (try clear hb)
            (try clear hb2)
            (try clear hk)
            (try clear hi)
            refine hK.out _ _ ⟨((HB.out.cell (World.block_lt_of_cell? w _ hw393_0)).trans hw393_0),((HB.out.cell (World.block_lt_of_cell? w _ hw394_0)).trans hw394_0),((HB.out.cell (World.block_lt_of_cell? w _ hw395_0)).trans hw395_0),((HB.out.cell (World.block_lt_of_cell? w _ hw397_0)).trans hw397_0)⟩ (fun hHeld=>?_)
            clear hK K
            refine norm_ (a':=?_) ?_ ?_
            rotate_left
            ·
             show Act.put _ (some 33) _=_
             simp only [Act.put,List.setIfInBounds_toArray,List.set_cons_zero,List.set_cons_succ,i64_w,i32_w]
             rfl
            refine one_ (i:=19) (N:=some 38) #[true,true,true,true,true,true,true,true,true,true,true,true,true,true,true,true,true,true,true,true,false,false] rfl rfl (one_of HT_.out (by kernel_rfl)) (by decide) (fun K hK=>?_)
            refine goes_ Try.func27 (by kernel_rfl) rfl #[.string (rdOf ByteArray.empty l0 x4_2)] (by rfl) rfl rfl (by (try simp only [List.map_toArray,List.map_cons,List.map_nil]);first|done|rfl|(simp only [List.length_drop,List.length_take];rfl)) ?_
            with_reducible refine (mosaicref01_Sum.calls k2 (rdOf ByteArray.empty l0 x4_2) t398 _ A11.out).mono ?_
            rintro e w15 ⟨rfl,hb⟩
            refine ⟨_,rfl,?_⟩
            have n0_:=Aside0.mk (blk_below (g:=gb392) (o:=.cells #[.string x393000_2,.string x393001_2,.bool x393002_2] 67 (0,0)) (by (with_reducible repeat (first|refine blk_drewN ?_ _|refine blk_drew ?_|refine blk_alloc ?_ _));exact BK392.out) hb)
            have n1_:=Aside0.mk (below_step (by repeat (first|(with_reducible first|exact HB.out|apply below_alloc|apply pw_below_drewN|apply below_drew1|refine below_set ?_ GE392.out)|exact HB.out)) hb)
            clear BK392
            clear HB
            have BK392:=n0_
            have HB:=n1_
            clear n0_ n1_
            (try clear hb)
            (try clear hb2)
            (try clear hk)
            (try clear hi)
            refine hK.out _ _ ⟨((HB.out.cell (World.block_lt_of_cell? w _ hw393_0)).trans hw393_0),((HB.out.cell (World.block_lt_of_cell? w _ hw394_0)).trans hw394_0),((HB.out.cell (World.block_lt_of_cell? w _ hw395_0)).trans hw395_0),((HB.out.cell (World.block_lt_of_cell? w _ hw397_0)).trans hw397_0)⟩ (fun hHeld=>?_)
            clear hK K
            refine norm_ (a':=?_) ?_ ?_
            rotate_left
            ·
             show Act.put _ (some 38) _=_
             simp only [Act.put,List.setIfInBounds_toArray,List.set_cons_zero,List.set_cons_succ,i64_w,i32_w]
             rfl
            refine pure_ (i:=20) (N:=some 39) (v:=?_) (a':=?_) #[true,true,true,true,true,true,true,true,true,true,true,true,true,true,true,true,true,true,true,true,true,false] rfl rfl (any_of HT_.out (by kernel_rfl)) (fun _ _ _ h=>h) (Or.inl ⟨by rfl,?_⟩) ?_ ?_
            rotate_left
            ·
             intro w'
             go_simp
             with_reducible rfl
            rotate_left
            ·
             simp only [Act.put,List.setIfInBounds_toArray,List.set_cons_zero,List.set_cons_succ,i64_w,i32_w]
             rfl
            refine pure_ (i:=21) (N:=some 40) (v:=?_) (a':=?_) #[true,true,true,true,true,true,true,true,true,true,true,true,true,true,true,true,true,true,true,true,true,true] rfl rfl (any_of HT_.out (by kernel_rfl)) (fun _ _ _ h=>h) (Or.inl ⟨by rfl,?_⟩) ?_ ?_
            rotate_left
            ·
             intro w'
             go_simp
             with_reducible rfl
            rotate_left
            ·
             simp only [Act.put,List.setIfInBounds_toArray,List.set_cons_zero,List.set_cons_succ,i64_w,i32_w]
             rfl
            refine done_ (done_of HT_.out (by kernel_rfl)) ?_
            try go_wp2
            have n0_:=Aside0.mk (blk_drew BK392.out)
            have n1_:=Aside0.mk (below_drew1 HB.out)
            clear BK392
            clear HB
            have BK392:=n0_
            have HB:=n1_
            clear n0_ n1_
            have p399:0≤(x3_1:Int):=of_decide_eq_true (by first|(with_reducible assumption)|assumption)
            have q399:x3_1 < (l0.length:Int):=of_decide_eq_true (by first|(with_reducible assumption)|assumption)
            obtain ⟨ad399,e399,hx399_0⟩:=Kd.at_string HR0.out x3_1 p399 q399
            have hw399_0:=hx399_0
            obtain rfl:ad393=ad399:=(by injection e399)
            replace hx399_0:=(HB.out.cell (World.block_lt_of_cell? w _ hx399_0)).trans hx399_0
            replace p399:=eq_true p399
            replace q399:=eq_true q399
            have p400:0≤(x4_2:Int):=of_decide_eq_true (by first|(with_reducible assumption)|assumption)
            have q400:x4_2 < (l0.length:Int):=of_decide_eq_true (by first|(with_reducible assumption)|assumption)
            obtain ⟨ad400,e400,hx400_0⟩:=Kd.at_string HR0.out x4_2 p400 q400
            have hw400_0:=hx400_0
            obtain rfl:ad393=ad400:=(by injection e400)
            replace hx400_0:=(HB.out.cell (World.block_lt_of_cell? w _ hx400_0)).trans hx400_0
            replace p400:=eq_true p400
            replace q400:=eq_true q400
            refine start_ (n:=10) (S:=fun w'=>w'.cell? (ad393.add (x3_1).toNat)=some (.string (rdOf ByteArray.empty l0 x3_1))∧w'.cell? (ad393.add (x4_2).toNat)=some (.string (rdOf ByteArray.empty l0 x4_2))) (ds:=[]) #[false,false,false,false,false,false,false,false,false,false] (by kernel_rfl) rfl rfl ⟨((HB.out.cell (World.block_lt_of_cell? w _ hw399_0)).trans hw399_0),((HB.out.cell (World.block_lt_of_cell? w _ hw400_0)).trans hw400_0)⟩ (fun hHeld=>?_);refine with_tabW mosaicref03_Witness.tab8 mosaicref03_Witness.bits8 (fun HT_ HW_=>?_)
            generalize w15.drew=w16 at BK392 HB hx399_0 hx400_0 hHeld ⊢
            refine pure_ (i:=0) (N:=some 41) (v:=?_) (a':=?_) #[true,false,false,false,false,false,false,false,false,false] rfl rfl (any_of HT_.out (by kernel_rfl)) (fun _ _ _ h=>h) (Or.inl ⟨by rfl,?_⟩) ?_ ?_
            rotate_left
            ·
             intro w'
             go_simp
             with_reducible rfl
            rotate_left
            ·
             simp only [Act.put,List.setIfInBounds_toArray,List.set_cons_zero,List.set_cons_succ,i64_w,i32_w]
             rfl
            refine pure_ (i:=1) (N:=some 42) (v:=?_) (a':=?_) #[true,true,false,false,false,false,false,false,false,false] rfl rfl (any_of HT_.out (by kernel_rfl)) (fun _ _ _ h=>h) (Or.inl ⟨by rfl,?_⟩) ?_ ?_
            rotate_left
            ·
             intro w'
             go_simp
             with_reducible rfl
            rotate_left
            ·
             simp only [Act.put,List.setIfInBounds_toArray,List.set_cons_zero,List.set_cons_succ,i64_w,i32_w]
             rfl
            refine pure_ (i:=2) (N:=some 43) (v:=?_) (a':=?_) #[true,true,true,false,false,false,false,false,false,false] rfl rfl (any_of HT_.out (by kernel_rfl)) (fun _ _ _ h=>h) (Or.inl ⟨by rfl,?_⟩) ?_ ?_
            rotate_left
            ·
             intro w'
             go_simp
             with_reducible rfl
            rotate_left
            ·
             simp only [Act.put,List.setIfInBounds_toArray,List.set_cons_zero,List.set_cons_succ,i64_w,i32_w]
             rfl
            refine pure_ (i:=4) (N:=some 45) (v:=?_) (a':=?_) #[true,true,true,false,true,false,false,false,false,false] rfl rfl (any_of HT_.out (by kernel_rfl)) (fun _ _ _ h=>h) (Or.inl ⟨by rfl,?_⟩) ?_ ?_
            rotate_left
            ·
             intro w'
             go_simp
             with_reducible rfl
            rotate_left
            ·
             simp only [Act.put,List.setIfInBounds_toArray,List.set_cons_zero,List.set_cons_succ,i64_w,i32_w]
             rfl
            refine pure_ (i:=5) (N:=some 46) (v:=?_) (a':=?_) #[true,true,true,false,true,true,false,false,false,false] rfl rfl (any_of HT_.out (by kernel_rfl)) (fun _ _ _ h=>h) (Or.inl ⟨by rfl,?_⟩) ?_ ?_
            rotate_left
            ·
             intro w'
             go_simp
             with_reducible rfl
            rotate_left
            ·
             simp only [Act.put,List.setIfInBounds_toArray,List.set_cons_zero,List.set_cons_succ,i64_w,i32_w]
             rfl
            refine pure_ (i:=6) (N:=some 47) (v:=?_) (a':=?_) #[true,true,true,false,true,true,true,false,false,false] rfl rfl (any_of HT_.out (by kernel_rfl)) (fun _ _ _ h=>h) (Or.inl ⟨by rfl,?_⟩) ?_ ?_
            rotate_left
            ·
             intro w'
             go_simp
             with_reducible rfl
            rotate_left
            ·
             simp only [Act.put,List.setIfInBounds_toArray,List.set_cons_zero,List.set_cons_succ,i64_w,i32_w]
             rfl
            refine take_ (i:=3) (N:=some 44) (v:=?_) (a':=?_) #[true,true,true,true,true,true,true,false,false,false] rfl rfl (take_ofW HT_.out HW_.out (by kernel_rfl)) (fun _ _ _ h=>h) (Or.inl ⟨by rfl,?_⟩) hHeld ?_ ?_
            rotate_left
            ·
             rintro w' ⟨s0,s1⟩
             go_simp
             with_reducible rfl
            rotate_left
            ·
             simp only [Act.put,List.setIfInBounds_toArray,List.set_cons_zero,List.set_cons_succ,i64_w,i32_w]
             rfl
            refine take_ (i:=7) (N:=some 48) (v:=?_) (a':=?_) #[true,true,true,true,true,true,true,true,false,false] rfl rfl (take_ofW HT_.out HW_.out (by kernel_rfl)) (fun _ _ _ h=>h) (Or.inl ⟨by rfl,?_⟩) hHeld ?_ ?_
            rotate_left
            ·
             rintro w' ⟨s0,s1⟩
             go_simp
             with_reducible rfl
            rotate_left
            ·
             simp only [Act.put,List.setIfInBounds_toArray,List.set_cons_zero,List.set_cons_succ,i64_w,i32_w]
             rfl
            refine pure_ (i:=8) (N:=some 49) (v:=?_) (a':=?_) #[true,true,true,true,true,true,true,true,true,false] rfl rfl (any_of HT_.out (by kernel_rfl)) (fun _ _ _ h=>h) (Or.inl ⟨by rfl,?_⟩) ?_ ?_
            rotate_left
            ·
             intro w'
             go_simp
             with_reducible rfl
            rotate_left
            ·
             simp only [Act.put,List.setIfInBounds_toArray,List.set_cons_zero,List.set_cons_succ,i64_w,i32_w]
             rfl
            refine one_ (i:=9) (N:=none) #[true,true,true,true,true,true,true,true,true,true] rfl rfl (one_of HT_.out (by kernel_rfl)) (by decide) (fun K hK=>?_)
            have hs17:w16.cell? ⟨gb392,0,none⟩=some (.string x393000_2):=(blk_cell BK392.out 0).trans rfl
            have hfs17:=blk_frozen BK392.out 0
            have hs18:w16.cell? ⟨gb392,1,none⟩=some (.string x393001_2):=(blk_cell BK392.out 1).trans rfl
            have hfs18:=blk_frozen BK392.out 1
            have hs19:w16.cell? ⟨gb392,2,none⟩=some (.bool x393002_2):=(blk_cell BK392.out 2).trans rfl
            have hfs19:=blk_frozen BK392.out 2
            refine skip_ (w1:=?_) (by rfl) rfl ?_ ?_
            rotate_left
            ·
             go_simp
             rfl
            refine hK.out _ _ ⟨((cell_far (p:=⟨gb392,_,none⟩) (by first|exact Nat.ne_of_lt (Nat.lt_of_lt_of_le (by have:=World.block_lt_of_cell? _ _ hw399_0;first|rwa [add_block] at this|exact this) GW392.out)|(rw [add_block];exact Nat.ne_of_lt (Nat.lt_of_lt_of_le (by have:=World.block_lt_of_cell? _ _ hw399_0;first|rwa [add_block] at this|exact this) GW392.out))|(show (Addr.add _ _).block≠_;rw [add_block];exact Nat.ne_of_lt (Nat.lt_of_lt_of_le (by have:=World.block_lt_of_cell? _ _ hw399_0;first|rwa [add_block] at this|exact this) GW392.out))|(dsimp only;exact Nat.ne_of_lt (Nat.lt_of_lt_of_le (by have:=World.block_lt_of_cell? _ _ hw399_0;first|rwa [add_block] at this|exact this) GW392.out))) _).trans (((cell_far (p:=⟨gb392,_,none⟩) (by first|exact Nat.ne_of_lt (Nat.lt_of_lt_of_le (by have:=World.block_lt_of_cell? _ _ hw399_0;first|rwa [add_block] at this|exact this) GW392.out)|(rw [add_block];exact Nat.ne_of_lt (Nat.lt_of_lt_of_le (by have:=World.block_lt_of_cell? _ _ hw399_0;first|rwa [add_block] at this|exact this) GW392.out))|(show (Addr.add _ _).block≠_;rw [add_block];exact Nat.ne_of_lt (Nat.lt_of_lt_of_le (by have:=World.block_lt_of_cell? _ _ hw399_0;first|rwa [add_block] at this|exact this) GW392.out))|(dsimp only;exact Nat.ne_of_lt (Nat.lt_of_lt_of_le (by have:=World.block_lt_of_cell? _ _ hw399_0;first|rwa [add_block] at this|exact this) GW392.out))) _).trans (((cell_far (p:=⟨gb392,_,none⟩) (by first|exact Nat.ne_of_lt (Nat.lt_of_lt_of_le (by have:=World.block_lt_of_cell? _ _ hw399_0;first|rwa [add_block] at this|exact this) GW392.out)|(rw [add_block];exact Nat.ne_of_lt (Nat.lt_of_lt_of_le (by have:=World.block_lt_of_cell? _ _ hw399_0;first|rwa [add_block] at this|exact this) GW392.out))|(show (Addr.add _ _).block≠_;rw [add_block];exact Nat.ne_of_lt (Nat.lt_of_lt_of_le (by have:=World.block_lt_of_cell? _ _ hw399_0;first|rwa [add_block] at this|exact this) GW392.out))|(dsimp only;exact Nat.ne_of_lt (Nat.lt_of_lt_of_le (by have:=World.block_lt_of_cell? _ _ hw399_0;first|rwa [add_block] at this|exact this) GW392.out))) _).trans (hHeld.1)))))),((cell_far (p:=⟨gb392,_,none⟩) (by first|exact Nat.ne_of_lt (Nat.lt_of_lt_of_le (by have:=World.block_lt_of_cell? _ _ hw400_0;first|rwa [add_block] at this|exact this) GW392.out)|(rw [add_block];exact Nat.ne_of_lt (Nat.lt_of_lt_of_le (by have:=World.block_lt_of_cell? _ _ hw400_0;first|rwa [add_block] at this|exact this) GW392.out))|(show (Addr.add _ _).block≠_;rw [add_block];exact Nat.ne_of_lt (Nat.lt_of_lt_of_le (by have:=World.block_lt_of_cell? _ _ hw400_0;first|rwa [add_block] at this|exact this) GW392.out))|(dsimp only;exact Nat.ne_of_lt (Nat.lt_of_lt_of_le (by have:=World.block_lt_of_cell? _ _ hw400_0;first|rwa [add_block] at this|exact this) GW392.out))) _).trans (((cell_far (p:=⟨gb392,_,none⟩) (by first|exact Nat.ne_of_lt (Nat.lt_of_lt_of_le (by have:=World.block_lt_of_cell? _ _ hw400_0;first|rwa [add_block] at this|exact this) GW392.out)|(rw [add_block];exact Nat.ne_of_lt (Nat.lt_of_lt_of_le (by have:=World.block_lt_of_cell? _ _ hw400_0;first|rwa [add_block] at this|exact this) GW392.out))|(show (Addr.add _ _).block≠_;rw [add_block];exact Nat.ne_of_lt (Nat.lt_of_lt_of_le (by have:=World.block_lt_of_cell? _ _ hw400_0;first|rwa [add_block] at this|exact this) GW392.out))|(dsimp only;exact Nat.ne_of_lt (Nat.lt_of_lt_of_le (by have:=World.block_lt_of_cell? _ _ hw400_0;first|rwa [add_block] at this|exact this) GW392.out))) _).trans (((cell_far (p:=⟨gb392,_,none⟩) (by first|exact Nat.ne_of_lt (Nat.lt_of_lt_of_le (by have:=World.block_lt_of_cell? _ _ hw400_0;first|rwa [add_block] at this|exact this) GW392.out)|(rw [add_block];exact Nat.ne_of_lt (Nat.lt_of_lt_of_le (by have:=World.block_lt_of_cell? _ _ hw400_0;first|rwa [add_block] at this|exact this) GW392.out))|(show (Addr.add _ _).block≠_;rw [add_block];exact Nat.ne_of_lt (Nat.lt_of_lt_of_le (by have:=World.block_lt_of_cell? _ _ hw400_0;first|rwa [add_block] at this|exact this) GW392.out))|(dsimp only;exact Nat.ne_of_lt (Nat.lt_of_lt_of_le (by have:=World.block_lt_of_cell? _ _ hw400_0;first|rwa [add_block] at this|exact this) GW392.out))) _).trans (hHeld.2))))))⟩ (fun hHeld=>?_)
            clear hK K
            refine done_ (done_of HT_.out (by kernel_rfl)) ?_
            try go_wp2
            refine bodyPost_ret (results_cell_row rfl _ _ gb392 67 #[.string (rdOf ByteArray.empty l0 x3_1),.string (rdOf ByteArray.empty l0 x4_2),.bool true] (0,0) _ rfl (by (with_reducible repeat (first|refine blk_drewN ?_ _|refine blk_drew ?_|refine blk_alloc ?_ _));refine blk_put (cs:=#[.string (rdOf ByteArray.empty l0 x3_1),.string (rdOf ByteArray.empty l0 x4_2),.bool x393002_2]) ?_ 2 _ rfl;(with_reducible repeat (first|refine blk_drewN ?_ _|refine blk_drew ?_|refine blk_alloc ?_ _));refine blk_put (cs:=#[.string (rdOf ByteArray.empty l0 x3_1),.string x393001_2,.bool x393002_2]) ?_ 1 _ rfl;(with_reducible repeat (first|refine blk_drewN ?_ _|refine blk_drew ?_|refine blk_alloc ?_ _));refine blk_put (cs:=#[.string x393000_2,.string x393001_2,.bool x393002_2]) ?_ 0 _ rfl;(with_reducible repeat (first|refine blk_drewN ?_ _|refine blk_drew ?_|refine blk_alloc ?_ _));exact BK392.out) Try.underlying67 rfl (by kernel_rfl)) rfl ?_
            exact ⟨by first|rfl|(simp [errW_none,errW_some] <;> rfl)|(simp [*,errW_none,errW_some] <;> rfl),by repeat (first|(with_reducible first|exact HB.out|apply below_alloc|apply pw_below_drewN|apply below_drew1|refine below_set ?_ GE392.out)|exact HB.out)⟩
           ·
            rw [if_neg c12] at H
            have c12b0:(t396.toList == t398.toList)=false:=beq_eq_false_iff_ne.mpr c12
            have c12b1:(t396.toList != t398.toList)=true:=bne_iff_ne.mpr c12
            have H':=Aside0.mk H
            clear H
            try go_wp2
            have n0_:=Aside0.mk (blk_drew BK392.out)
            have n1_:=Aside0.mk (below_drew1 HB.out)
            clear BK392
            clear HB
            have BK392:=n0_
            have HB:=n1_
            clear n0_ n1_
            have p393:0≤(x3_1:Int):=of_decide_eq_true (by first|(with_reducible assumption)|assumption)
            have q393:x3_1 < (l0.length:Int):=of_decide_eq_true (by first|(with_reducible assumption)|assumption)
            obtain ⟨ad393,e393,hx393_0⟩:=Kd.at_string HR0.out x3_1 p393 q393
            have hw393_0:=hx393_0
            cases e393
            replace hx393_0:=(HB.out.cell (World.block_lt_of_cell? w _ hx393_0)).trans hx393_0
            replace p393:=eq_true p393
            replace q393:=eq_true q393
            have p394:0≤(x4_2:Int):=of_decide_eq_true (by first|(with_reducible assumption)|assumption)
            have q394:x4_2 < (l0.length:Int):=of_decide_eq_true (by first|(with_reducible assumption)|assumption)
            obtain ⟨ad394,e394,hx394_0⟩:=Kd.at_string HR0.out x4_2 p394 q394
            have hw394_0:=hx394_0
            obtain rfl:ad393=ad394:=(by injection e394)
            replace hx394_0:=(HB.out.cell (World.block_lt_of_cell? w _ hx394_0)).trans hx394_0
            replace p394:=eq_true p394
            replace q394:=eq_true q394
            have p395:0≤(x3_1:Int):=of_decide_eq_true (by first|(with_reducible assumption)|assumption)
            have q395:x3_1 < (l0.length:Int):=of_decide_eq_true (by first|(with_reducible assumption)|assumption)
            obtain ⟨ad395,e395,hx395_0⟩:=Kd.at_string HR0.out x3_1 p395 q395
            have hw395_0:=hx395_0
            obtain rfl:ad393=ad395:=(by injection e395)
            replace hx395_0:=(HB.out.cell (World.block_lt_of_cell? w _ hx395_0)).trans hx395_0
            replace p395:=eq_true p395
            replace q395:=eq_true q395
            have p397:0≤(x4_2:Int):=of_decide_eq_true (by first|(with_reducible assumption)|assumption)
            have q397:x4_2 < (l0.length:Int):=of_decide_eq_true (by first|(with_reducible assumption)|assumption)
            obtain ⟨ad397,e397,hx397_0⟩:=Kd.at_string HR0.out x4_2 p397 q397
            have hw397_0:=hx397_0
            obtain rfl:ad393=ad397:=(by injection e397)
            replace hx397_0:=(HB.out.cell (World.block_lt_of_cell? w _ hx397_0)).trans hx397_0
            replace p397:=eq_true p397
            replace q397:=eq_true q397
            refine start_ (n:=22) (S:=fun w'=>w'.cell? (ad393.add (x3_1).toNat)=some (.string (rdOf ByteArray.empty l0 x3_1))∧w'.cell? (ad393.add (x4_2).toNat)=some (.string (rdOf ByteArray.empty l0 x4_2))∧w'.cell? (ad393.add (x3_1).toNat)=some (.string (rdOf ByteArray.empty l0 x3_1))∧w'.cell? (ad393.add (x4_2).toNat)=some (.string (rdOf ByteArray.empty l0 x4_2))) (ds:=[]) #[false,false,false,false,false,false,false,false,false,false,false,false,false,false,false,false,false,false,false,false,false,false] (by kernel_rfl) rfl rfl ⟨((HB.out.cell (World.block_lt_of_cell? w _ hw393_0)).trans hw393_0),((HB.out.cell (World.block_lt_of_cell? w _ hw394_0)).trans hw394_0),((HB.out.cell (World.block_lt_of_cell? w _ hw395_0)).trans hw395_0),((HB.out.cell (World.block_lt_of_cell? w _ hw397_0)).trans hw397_0)⟩ (fun hHeld=>?_);refine with_tabW mosaicref03_Witness.tab7 mosaicref03_Witness.bits7 (fun HT_ HW_=>?_)
            generalize wr.drew=w20 at BK392 HB hx393_0 hx394_0 hx395_0 hx397_0 hHeld ⊢
            refine pure_ (i:=0) (N:=some 19) (v:=?_) (a':=?_) #[true,false,false,false,false,false,false,false,false,false,false,false,false,false,false,false,false,false,false,false,false,false] rfl rfl (any_of HT_.out (by kernel_rfl)) (fun _ _ _ h=>h) (Or.inl ⟨by rfl,?_⟩) ?_ ?_
            rotate_left
            ·
             intro w'
             go_simp
             with_reducible rfl
            rotate_left
            ·
             simp only [Act.put,List.setIfInBounds_toArray,List.set_cons_zero,List.set_cons_succ,i64_w,i32_w]
             rfl
            refine pure_ (i:=1) (N:=some 20) (v:=?_) (a':=?_) #[true,true,false,false,false,false,false,false,false,false,false,false,false,false,false,false,false,false,false,false,false,false] rfl rfl (any_of HT_.out (by kernel_rfl)) (fun _ _ _ h=>h) (Or.inl ⟨by rfl,?_⟩) ?_ ?_
            rotate_left
            ·
             intro w'
             go_simp
             with_reducible rfl
            rotate_left
            ·
             simp only [Act.put,List.setIfInBounds_toArray,List.set_cons_zero,List.set_cons_succ,i64_w,i32_w]
             rfl
            refine pure_ (i:=2) (N:=some 21) (v:=?_) (a':=?_) #[true,true,true,false,false,false,false,false,false,false,false,false,false,false,false,false,false,false,false,false,false,false] rfl rfl (any_of HT_.out (by kernel_rfl)) (fun _ _ _ h=>h) (Or.inl ⟨by rfl,?_⟩) ?_ ?_
            rotate_left
            ·
             intro w'
             go_simp
             with_reducible rfl
            rotate_left
            ·
             simp only [Act.put,List.setIfInBounds_toArray,List.set_cons_zero,List.set_cons_succ,i64_w,i32_w]
             rfl
            refine pure_ (i:=4) (N:=some 23) (v:=?_) (a':=?_) #[true,true,true,false,true,false,false,false,false,false,false,false,false,false,false,false,false,false,false,false,false,false] rfl rfl (any_of HT_.out (by kernel_rfl)) (fun _ _ _ h=>h) (Or.inl ⟨by rfl,?_⟩) ?_ ?_
            rotate_left
            ·
             intro w'
             go_simp
             with_reducible rfl
            rotate_left
            ·
             simp only [Act.put,List.setIfInBounds_toArray,List.set_cons_zero,List.set_cons_succ,i64_w,i32_w]
             rfl
            refine pure_ (i:=5) (N:=some 24) (v:=?_) (a':=?_) #[true,true,true,false,true,true,false,false,false,false,false,false,false,false,false,false,false,false,false,false,false,false] rfl rfl (any_of HT_.out (by kernel_rfl)) (fun _ _ _ h=>h) (Or.inl ⟨by rfl,?_⟩) ?_ ?_
            rotate_left
            ·
             intro w'
             go_simp
             with_reducible rfl
            rotate_left
            ·
             simp only [Act.put,List.setIfInBounds_toArray,List.set_cons_zero,List.set_cons_succ,i64_w,i32_w]
             rfl
            refine pure_ (i:=6) (N:=some 25) (v:=?_) (a':=?_) #[true,true,true,false,true,true,true,false,false,false,false,false,false,false,false,false,false,false,false,false,false,false] rfl rfl (any_of HT_.out (by kernel_rfl)) (fun _ _ _ h=>h) (Or.inl ⟨by rfl,?_⟩) ?_ ?_
            rotate_left
            ·
             intro w'
             go_simp
             with_reducible rfl
            rotate_left
            ·
             simp only [Act.put,List.setIfInBounds_toArray,List.set_cons_zero,List.set_cons_succ,i64_w,i32_w]
             rfl
            refine take_ (i:=3) (N:=some 22) (v:=?_) (a':=?_) #[true,true,true,true,true,true,true,false,false,false,false,false,false,false,false,false,false,false,false,false,false,false] rfl rfl (take_ofW HT_.out HW_.out (by kernel_rfl)) (fun _ _ _ h=>h) (Or.inl ⟨by rfl,?_⟩) hHeld ?_ ?_
            rotate_left
            ·
             rintro w' ⟨s0,s1,s2,s3⟩
             go_simp
             with_reducible rfl
            rotate_left
            ·
             simp only [Act.put,List.setIfInBounds_toArray,List.set_cons_zero,List.set_cons_succ,i64_w,i32_w]
             rfl
            refine take_ (i:=7) (N:=some 26) (v:=?_) (a':=?_) #[true,true,true,true,true,true,true,true,false,false,false,false,false,false,false,false,false,false,false,false,false,false] rfl rfl (take_ofW HT_.out HW_.out (by kernel_rfl)) (fun _ _ _ h=>h) (Or.inl ⟨by rfl,?_⟩) hHeld ?_ ?_
            rotate_left
            ·
             rintro w' ⟨s0,s1,s2,s3⟩
             go_simp
             with_reducible rfl
            rotate_left
            ·
             simp only [Act.put,List.setIfInBounds_toArray,List.set_cons_zero,List.set_cons_succ,i64_w,i32_w]
             rfl
            refine pure_ (i:=8) (N:=some 27) (v:=?_) (a':=?_) #[true,true,true,true,true,true,true,true,true,false,false,false,false,false,false,false,false,false,false,false,false,false] rfl rfl (any_of HT_.out (by kernel_rfl)) (fun _ _ _ h=>h) (Or.inl ⟨by rfl,?_⟩) ?_ ?_
            rotate_left
            ·
             intro w'
             go_simp
             with_reducible rfl
            rotate_left
            ·
             simp only [Act.put,List.setIfInBounds_toArray,List.set_cons_zero,List.set_cons_succ,i64_w,i32_w]
             rfl
            refine pure_ (i:=9) (N:=some 28) (v:=?_) (a':=?_) #[true,true,true,true,true,true,true,true,true,true,false,false,false,false,false,false,false,false,false,false,false,false] rfl rfl (any_of HT_.out (by kernel_rfl)) (fun _ _ _ h=>h) (Or.inl ⟨by rfl,?_⟩) ?_ ?_
            rotate_left
            ·
             intro w'
             go_simp
             with_reducible rfl
            rotate_left
            ·
             simp only [Act.put,List.setIfInBounds_toArray,List.set_cons_zero,List.set_cons_succ,i64_w,i32_w]
             rfl
            refine pure_ (i:=10) (N:=some 29) (v:=?_) (a':=?_) #[true,true,true,true,true,true,true,true,true,true,true,false,false,false,false,false,false,false,false,false,false,false] rfl rfl (any_of HT_.out (by kernel_rfl)) (fun _ _ _ h=>h) (Or.inl ⟨by rfl,?_⟩) ?_ ?_
            rotate_left
            ·
             intro w'
             go_simp
             with_reducible rfl
            rotate_left
            ·
             simp only [Act.put,List.setIfInBounds_toArray,List.set_cons_zero,List.set_cons_succ,i64_w,i32_w]
             rfl
            refine pure_ (i:=11) (N:=some 30) (v:=?_) (a':=?_) #[true,true,true,true,true,true,true,true,true,true,true,true,false,false,false,false,false,false,false,false,false,false] rfl rfl (any_of HT_.out (by kernel_rfl)) (fun _ _ _ h=>h) (Or.inl ⟨by rfl,?_⟩) ?_ ?_
            rotate_left
            ·
             intro w'
             go_simp
             with_reducible rfl
            rotate_left
            ·
             simp only [Act.put,List.setIfInBounds_toArray,List.set_cons_zero,List.set_cons_succ,i64_w,i32_w]
             rfl
            refine pure_ (i:=12) (N:=some 31) (v:=?_) (a':=?_) #[true,true,true,true,true,true,true,true,true,true,true,true,true,false,false,false,false,false,false,false,false,false] rfl rfl (any_of HT_.out (by kernel_rfl)) (fun _ _ _ h=>h) (Or.inl ⟨by rfl,?_⟩) ?_ ?_
            rotate_left
            ·
             intro w'
             go_simp
             with_reducible rfl
            rotate_left
            ·
             simp only [Act.put,List.setIfInBounds_toArray,List.set_cons_zero,List.set_cons_succ,i64_w,i32_w]
             rfl
            refine pure_ (i:=15) (N:=some 34) (v:=?_) (a':=?_) #[true,true,true,true,true,true,true,true,true,true,true,true,true,false,false,true,false,false,false,false,false,false] rfl rfl (any_of HT_.out (by kernel_rfl)) (fun _ _ _ h=>h) (Or.inl ⟨by rfl,?_⟩) ?_ ?_
            rotate_left
            ·
             intro w'
             go_simp
             with_reducible rfl
            rotate_left
            ·
             simp only [Act.put,List.setIfInBounds_toArray,List.set_cons_zero,List.set_cons_succ,i64_w,i32_w]
             rfl
            refine pure_ (i:=16) (N:=some 35) (v:=?_) (a':=?_) #[true,true,true,true,true,true,true,true,true,true,true,true,true,false,false,true,true,false,false,false,false,false] rfl rfl (any_of HT_.out (by kernel_rfl)) (fun _ _ _ h=>h) (Or.inl ⟨by rfl,?_⟩) ?_ ?_
            rotate_left
            ·
             intro w'
             go_simp
             with_reducible rfl
            rotate_left
            ·
             simp only [Act.put,List.setIfInBounds_toArray,List.set_cons_zero,List.set_cons_succ,i64_w,i32_w]
             rfl
            refine pure_ (i:=17) (N:=some 36) (v:=?_) (a':=?_) #[true,true,true,true,true,true,true,true,true,true,true,true,true,false,false,true,true,true,false,false,false,false] rfl rfl (any_of HT_.out (by kernel_rfl)) (fun _ _ _ h=>h) (Or.inl ⟨by rfl,?_⟩) ?_ ?_
            rotate_left
            ·
             intro w'
             go_simp
             with_reducible rfl
            rotate_left
            ·
             simp only [Act.put,List.setIfInBounds_toArray,List.set_cons_zero,List.set_cons_succ,i64_w,i32_w]
             rfl
            refine take_ (i:=13) (N:=some 32) (v:=?_) (a':=?_) #[true,true,true,true,true,true,true,true,true,true,true,true,true,true,false,true,true,true,false,false,false,false] rfl rfl (take_ofW HT_.out HW_.out (by kernel_rfl)) (fun _ _ _ h=>h) (Or.inl ⟨by rfl,?_⟩) hHeld ?_ ?_
            rotate_left
            ·
             rintro w' ⟨s0,s1,s2,s3⟩
             go_simp
             with_reducible rfl
            rotate_left
            ·
             simp only [Act.put,List.setIfInBounds_toArray,List.set_cons_zero,List.set_cons_succ,i64_w,i32_w]
             rfl
            refine take_ (i:=18) (N:=some 37) (v:=?_) (a':=?_) #[true,true,true,true,true,true,true,true,true,true,true,true,true,true,false,true,true,true,true,false,false,false] rfl rfl (take_ofW HT_.out HW_.out (by kernel_rfl)) (fun _ _ _ h=>h) (Or.inl ⟨by rfl,?_⟩) hHeld ?_ ?_
            rotate_left
            ·
             rintro w' ⟨s0,s1,s2,s3⟩
             go_simp
             with_reducible rfl
            rotate_left
            ·
             simp only [Act.put,List.setIfInBounds_toArray,List.set_cons_zero,List.set_cons_succ,i64_w,i32_w]
             rfl
            refine one_ (i:=14) (N:=some 33) #[true,true,true,true,true,true,true,true,true,true,true,true,true,true,true,true,true,true,true,false,false,false] rfl rfl (one_of HT_.out (by kernel_rfl)) (by decide) (fun K hK=>?_)
            refine goes_ Try.func27 (by kernel_rfl) rfl #[.string (rdOf ByteArray.empty l0 x3_1)] (by rfl) rfl rfl (by (try simp only [List.map_toArray,List.map_cons,List.map_nil]);first|done|rfl|(simp only [List.length_drop,List.length_take];rfl)) ?_
            with_reducible refine (mosaicref01_Sum.calls k2 (rdOf ByteArray.empty l0 x3_1) t396 _ A10.out).mono ?_
            rintro e w21 ⟨rfl,hb⟩
            refine ⟨_,rfl,?_⟩
            have n0_:=Aside0.mk (blk_below (g:=gb392) (o:=.cells #[.string x393000_2,.string x393001_2,.bool x393002_2] 67 (0,0)) (by (with_reducible repeat (first|refine blk_drewN ?_ _|refine blk_drew ?_|refine blk_alloc ?_ _));exact BK392.out) hb)
            have n1_:=Aside0.mk (below_step (by repeat (first|(with_reducible first|exact HB.out|apply below_alloc|apply pw_below_drewN|apply below_drew1|refine below_set ?_ GE392.out)|exact HB.out)) hb)
            clear BK392
            clear HB
            have BK392:=n0_
            have HB:=n1_
            clear n0_ n1_
            (try clear hb)
            (try clear hb2)
            (try clear hk)
            (try clear hi)
            refine hK.out _ _ ⟨((HB.out.cell (World.block_lt_of_cell? w _ hw393_0)).trans hw393_0),((HB.out.cell (World.block_lt_of_cell? w _ hw394_0)).trans hw394_0),((HB.out.cell (World.block_lt_of_cell? w _ hw395_0)).trans hw395_0),((HB.out.cell (World.block_lt_of_cell? w _ hw397_0)).trans hw397_0)⟩ (fun hHeld=>?_)
            clear hK K
            refine norm_ (a':=?_) ?_ ?_
            rotate_left
            ·
             show Act.put _ (some 33) _=_
             simp only [Act.put,List.setIfInBounds_toArray,List.set_cons_zero,List.set_cons_succ,i64_w,i32_w]
             rfl
            refine one_ (i:=19) (N:=some 38) #[true,true,true,true,true,true,true,true,true,true,true,true,true,true,true,true,true,true,true,true,false,false] rfl rfl (one_of HT_.out (by kernel_rfl)) (by decide) (fun K hK=>?_)
            refine goes_ Try.func27 (by kernel_rfl) rfl #[.string (rdOf ByteArray.empty l0 x4_2)] (by rfl) rfl rfl (by (try simp only [List.map_toArray,List.map_cons,List.map_nil]);first|done|rfl|(simp only [List.length_drop,List.length_take];rfl)) ?_
            with_reducible refine (mosaicref01_Sum.calls k2 (rdOf ByteArray.empty l0 x4_2) t398 _ A11.out).mono ?_
            rintro e w22 ⟨rfl,hb⟩
            refine ⟨_,rfl,?_⟩
            have n0_:=Aside0.mk (blk_below (g:=gb392) (o:=.cells #[.string x393000_2,.string x393001_2,.bool x393002_2] 67 (0,0)) (by (with_reducible repeat (first|refine blk_drewN ?_ _|refine blk_drew ?_|refine blk_alloc ?_ _));exact BK392.out) hb)
            have n1_:=Aside0.mk (below_step (by repeat (first|(with_reducible first|exact HB.out|apply below_alloc|apply pw_below_drewN|apply below_drew1|refine below_set ?_ GE392.out)|exact HB.out)) hb)
            clear BK392
            clear HB
            have BK392:=n0_
            have HB:=n1_
            clear n0_ n1_
            (try clear hb)
            (try clear hb2)
            (try clear hk)
            (try clear hi)
            refine hK.out _ _ ⟨((HB.out.cell (World.block_lt_of_cell? w _ hw393_0)).trans hw393_0),((HB.out.cell (World.block_lt_of_cell? w _ hw394_0)).trans hw394_0),((HB.out.cell (World.block_lt_of_cell? w _ hw395_0)).trans hw395_0),((HB.out.cell (World.block_lt_of_cell? w _ hw397_0)).trans hw397_0)⟩ (fun hHeld=>?_)
            clear hK K
            refine norm_ (a':=?_) ?_ ?_
            rotate_left
            ·
             show Act.put _ (some 38) _=_
             simp only [Act.put,List.setIfInBounds_toArray,List.set_cons_zero,List.set_cons_succ,i64_w,i32_w]
             rfl
            refine pure_ (i:=20) (N:=some 39) (v:=?_) (a':=?_) #[true,true,true,true,true,true,true,true,true,true,true,true,true,true,true,true,true,true,true,true,true,false] rfl rfl (any_of HT_.out (by kernel_rfl)) (fun _ _ _ h=>h) (Or.inl ⟨by rfl,?_⟩) ?_ ?_
            rotate_left
            ·
             intro w'
             go_simp
             with_reducible rfl
            rotate_left
            ·
             simp only [Act.put,List.setIfInBounds_toArray,List.set_cons_zero,List.set_cons_succ,i64_w,i32_w]
             rfl
            refine pure_ (i:=21) (N:=some 40) (v:=?_) (a':=?_) #[true,true,true,true,true,true,true,true,true,true,true,true,true,true,true,true,true,true,true,true,true,true] rfl rfl (any_of HT_.out (by kernel_rfl)) (fun _ _ _ h=>h) (Or.inl ⟨by rfl,?_⟩) ?_ ?_
            rotate_left
            ·
             intro w'
             go_simp
             with_reducible rfl
            rotate_left
            ·
             simp only [Act.put,List.setIfInBounds_toArray,List.set_cons_zero,List.set_cons_succ,i64_w,i32_w]
             rfl
            refine done_ (done_of HT_.out (by kernel_rfl)) ?_
            try go_wp2
            go_roundg k2
            case measure=>have:=HK1.out;have:=HK2.out;omega
            case rel=>exact ⟨(wrap64 (x4_2+1)),(x393000_2),(x393001_2),(x393002_2),(by first|rfl|(simp;done)|(simp [*];done)),H',⟨by have:=HK1.out;have:=HK2.out;omega⟩,⟨by (with_reducible repeat (first|refine blk_drewN ?_ _|refine blk_drew ?_|refine blk_alloc ?_ _));exact BK392.out⟩,⟨by repeat (first|(with_reducible first|exact HB.out|apply below_alloc|apply pw_below_drewN|apply below_drew1|refine below_set ?_ GE392.out)|exact HB.out)⟩⟩
         ·
          rw [if_neg c7] at H
          exact absurd H (by simp)
        ·
         rw [if_neg c6] at H
         exact absurd H (by simp)
       ·
        rw [if_neg c5] at H
        exact absurd H (by simp)
      ·
       rw [if_neg c4] at H
       have c4b0:decide (x4_2 < (l0.length:Int))=false:=decide_eq_false c4
       clear c4
       have H':=Aside0.mk H
       clear H
       go_wp2
       go_roundg k2
       case measure=>have:=HK1.out;have:=HK2.out;omega
       case rel=>exact ⟨(wrap64 (x3_1+1)),(x393000_2),(x393001_2),(x393002_2),(by first|rfl|(simp;done)|(simp [*];done)),H',⟨by have:=HK1.out;have:=HK2.out;omega⟩,⟨by (with_reducible repeat (first|refine blk_drewN ?_ _|refine blk_drew ?_|refine blk_alloc ?_ _));exact BK392.out⟩,⟨by repeat (first|(with_reducible first|exact HB.out|apply below_alloc|apply pw_below_drewN|apply below_drew1|refine below_set ?_ GE392.out)|exact HB.out)⟩⟩
   ·
    rw [if_neg c3] at H
    have c3b0:decide (x3_1 < (l0.length:Int))=false:=decide_eq_false c3
    clear c3
    simp only [Option.some.injEq,Prod.mk.injEq] at H
    obtain ⟨rfl,rfl,rfl⟩:=H
    have hcz23_0:wr.cell? ⟨gb392,0,none⟩=some (.string x393000_1):=(blk_cell BK392.out 0).trans rfl
    have hcz23_1:wr.cell? ⟨gb392,1,none⟩=some (.string x393001_1):=(blk_cell BK392.out 1).trans rfl
    have hcz23_2:wr.cell? ⟨gb392,2,none⟩=some (.bool x393002_1):=(blk_cell BK392.out 2).trans rfl
    have hfz23_0:=blk_frozen BK392.out 0
    have hfz23_1:=blk_frozen BK392.out 1
    have hfz23_2:=blk_frozen BK392.out 2
    go_wp2
    refine bodyPost_ret (results_cell_row rfl _ _ gb392 67 #[.string (⟨#[]⟩:ByteArray),.string (⟨#[]⟩:ByteArray),.bool false] (0,0) _ rfl (by (with_reducible repeat (first|refine blk_drewN ?_ _|refine blk_drew ?_|refine blk_alloc ?_ _));refine blk_put (cs:=#[.string (⟨#[]⟩:ByteArray),.string (⟨#[]⟩:ByteArray),.bool x393002_1]) ?_ 2 _ rfl;(with_reducible repeat (first|refine blk_drewN ?_ _|refine blk_drew ?_|refine blk_alloc ?_ _));refine blk_put (cs:=#[.string (⟨#[]⟩:ByteArray),.string x393001_1,.bool x393002_1]) ?_ 1 _ rfl;(with_reducible repeat (first|refine blk_drewN ?_ _|refine blk_drew ?_|refine blk_alloc ?_ _));refine blk_put (cs:=#[.string x393000_1,.string x393001_1,.bool x393002_1]) ?_ 0 _ rfl;(with_reducible repeat (first|refine blk_drewN ?_ _|refine blk_drew ?_|refine blk_alloc ?_ _));exact BK392.out) Try.underlying67 rfl (by kernel_rfl)) rfl ?_
    exact ⟨by first|rfl|(simp [errW_none,errW_some] <;> rfl)|(simp [*,errW_none,errW_some] <;> rfl),by repeat (first|(with_reducible first|exact HB.out|apply below_alloc|apply pw_below_drewN|apply below_drew1|refine below_set ?_ GE392.out)|exact HB.out)⟩
end Go.Proofs.Ytelcaepenfjloaa.Print
/-! #### PureWit -/
/- Two unlike texts of one sum: the first ones. -/
namespace Go.Proofs.Ytelcaepenfjloaa.Pure
open Go.RowKit Go.Proofs.Ytelcaepenfjloaa.Print Go.Proofs.YtelcaepenfjloaaW.PrintWords Go.Proofs.YtelcaepenfjloaaW.PrintLast Go.Proofs.YtelcaepenfjloaaW.PrintMore
set_option linter.unusedVariables false
set_option linter.unusedSimpArgs false
end Go.Proofs.Ytelcaepenfjloaa.Pure
/-! #### PureMer4 -/
/- The texts that are summed for a list; that a path folds to the root; that what folds to the root is the leaf's, or two unlike texts have one sum. -/
namespace Go.Proofs.Ytelcaepenfjloaa.Pure
open Go.RowKit Go.Proofs.Ytelcaepenfjloaa.Print Go.Proofs.YtelcaepenfjloaaW.PrintWords Go.Proofs.YtelcaepenfjloaaW.PrintLast Go.Proofs.YtelcaepenfjloaaW.PrintMore
set_option linter.unusedVariables false
set_option linter.unusedSimpArgs false
def textsM (l:List ByteArray):List ByteArray :=
 if h:l.length≤1 then [leafT (l.headD ByteArray.empty)]
 else textsM (l.take (halfN l.length)) ++ textsM (l.drop (halfN l.length)) ++ [knotT (topM ((l.take (halfN l.length)).map leafD)) (topM ((l.drop (halfN l.length)).map leafD))]
termination_by l.length
decreasing_by
 ·
  have:=halfN_lt l.length (by omega)
  rw [List.length_take]
  omega
 ·
  have:=halfN_pos l.length
  rw [List.length_drop]
  omega
theorem textsM_one (a:ByteArray):textsM [a]=[leafT a]:=by
 rw [textsM]
 rfl
theorem textsM_two (l:List ByteArray) (h:2≤l.length):textsM l=textsM (l.take (halfN l.length)) ++ textsM (l.drop (halfN l.length)) ++ [knotT (topM ((l.take (halfN l.length)).map leafD)) (topM ((l.drop (halfN l.length)).map leafD))]:=by
 conv=>lhs;rw [textsM]
 rw [dif_neg (by omega)]
theorem textsM_length (n:Nat):∀ l:List ByteArray,l.length=n→1≤n→(textsM l).length=2 * n - 1:=by
 induction n using Nat.strongRecOn with
 | _ n ih =>
  intro l hl h1
  by_cases h:n=1
  ·
   obtain ⟨a,rfl⟩:=list1 l (by omega)
   rw [textsM_one]
   simp
   omega
  ·
   have hlt:=halfN_lt l.length (by omega)
   have hps:=halfN_pos l.length
   rw [textsM_two l (by omega),List.length_append,List.length_append,ih (halfN l.length) (by omega) (l.take (halfN l.length)) (by rw [List.length_take];exact Nat.min_eq_left (by omega)) (by omega),ih (l.length - halfN l.length) (by omega) (l.drop (halfN l.length)) List.length_drop (by omega)]
   simp only [List.length_singleton]
   omega
theorem textsM_size (n:Nat):∀ l:List ByteArray,l.length=n→1≤n→(∀ s∈l,s.size≤60000)→∀ t∈textsM l,t.size≤60001:=by
 induction n using Nat.strongRecOn with
 | _ n ih =>
  intro l hl h1 hs t ht
  by_cases h:n=1
  ·
   obtain ⟨a,rfl⟩:=list1 l (by omega)
   rw [textsM_one] at ht
   have hz:=leafT_size a
   have:=hs a (by simp)
   have:t=leafT a:=by simpa using ht
   subst this
   omega
  ·
   have hlt:=halfN_lt l.length (by omega)
   have hps:=halfN_pos l.length
   have e1:(l.take (halfN l.length)).length=halfN l.length:=by rw [List.length_take];exact Nat.min_eq_left (by omega)
   have e2:(l.drop (halfN l.length)).length=l.length - halfN l.length:=List.length_drop
   rw [textsM_two l (by omega)] at ht
   rcases List.mem_append.1 ht with ht|ht
   ·
    rcases List.mem_append.1 ht with ht|ht
    ·
     exact ih _ (by omega) _ e1 (by omega) (fun s hx=>hs s (List.mem_of_mem_take hx)) t ht
    ·
     exact ih _ (by omega) _ e2 (by omega) (fun s hx=>hs s (List.mem_of_mem_drop hx)) t ht
   ·
    have z1:=topM_size _ ((l.take (halfN l.length)).map leafD) rfl (by rw [List.length_map,e1];omega) (leafs_size _)
    have z2:=topM_size _ ((l.drop (halfN l.length)).map leafD) rfl (by rw [List.length_map,e2];omega) (leafs_size _)
    have hz:=knotT_size (topM ((l.take (halfN l.length)).map leafD)) (topM ((l.drop (halfN l.length)).map leafD))
    have:t=knotT (topM ((l.take (halfN l.length)).map leafD)) (topM ((l.drop (halfN l.length)).map leafD)):=by simpa using ht
    subst this
    omega
/-- The last text: its sum is the root. -/
def lastT (l:List ByteArray):ByteArray:=if l.length≤1 then leafT (l.headD ByteArray.empty) else knotT (topM ((l.take (halfN l.length)).map leafD)) (topM ((l.drop (halfN l.length)).map leafD))
theorem textsM_last (l:List ByteArray) (h1:1≤l.length):∃ t,textsM l=t ++ [lastT l]:=by
 by_cases h:l.length=1
 ·
  obtain ⟨a,rfl⟩:=list1 l h
  refine ⟨[],?_⟩
  rw [textsM_one]
  rfl
 ·
  refine ⟨textsM (l.take (halfN l.length)) ++ textsM (l.drop (halfN l.length)),?_⟩
  rw [textsM_two l (by omega)]
  unfold lastT
  rw [if_neg (by omega)]
theorem lastT_sum (l:List ByteArray) (h1:1≤l.length):shaSum (lastT l)=topM (l.map leafD):=by
 by_cases h:l.length=1
 ·
  obtain ⟨a,rfl⟩:=list1 l h
  show shaSum (leafT a)=topM [leafD a]
  rw [topM_one]
  rfl
 ·
  unfold lastT
  rw [if_neg (by omega),topM_two (l.map leafD) (by rw [List.length_map];omega),List.length_map,List.map_take,List.map_drop]
  rfl
theorem texts_l0 (l:List ByteArray) (h:2≤l.length) (hn:l.length≤1000) (hs:∀ s∈l,s.size≤60000)
  (i1:Ev (fun k=>merkle_texts.f k (l.take (halfN l.length))) (textsM (l.take (halfN l.length)),topM ((l.take (halfN l.length)).map leafD)))
  (i2:Ev (fun k=>merkle_texts.f k (l.drop (halfN l.length))) (textsM (l.drop (halfN l.length)),topM ((l.drop (halfN l.length)).map leafD))) (d:Nat) :
  ∀ j:Nat,j+d=(l.length - 1).log2→Ev (fun k=>merkle_texts.l0 k l ((2 ^ j:Nat):Int)) (textsM l,topM (l.map leafD)):=by
 have hlt:=halfN_lt l.length h
 have hge:=halfN_ge l.length
 have hps:=halfN_pos l.length
 induction d with
 | zero =>
  intro j hj
  have e:halfN l.length=2 ^ j:=by unfold halfN;rw [← hj];rfl
  refine Ev.succ ?_
  simp only [merkle_texts.l0]
  have e1:(l.take (halfN l.length)).length=halfN l.length:=by rw [List.length_take];exact Nat.min_eq_left (by omega)
  have e2:(l.drop (halfN l.length)).length=l.length - halfN l.length:=List.length_drop
  have z1:=topM_size _ ((l.take (halfN l.length)).map leafD) rfl (by rw [List.length_map,e1];omega) (leafs_size _)
  have z2:=topM_size _ ((l.drop (halfN l.length)).map leafD) rfl (by rw [List.length_map,e2];omega) (leafs_size _)
  have t1:=textsM_length _ (l.take (halfN l.length)) e1 (by omega)
  have t2:=textsM_length _ (l.drop (halfN l.length)) e2 (by omega)
  have hz:=knotT_size (topM ((l.take (halfN l.length)).map leafD)) (topM ((l.drop (halfN l.length)).map leafD))
  have hcs:concatSum [textsM (l.take (halfN l.length)),textsM (l.drop (halfN l.length))]≤8796093022208:=by
   simp only [concatSum]
   omega
  have hc:slices_Concat_string_string.f [textsM (l.take (halfN l.length)),textsM (l.drop (halfN l.length))]=some (textsM (l.take (halfN l.length)) ++ textsM (l.drop (halfN l.length))):=by
   unfold slices_Concat_string_string.f
   rw [if_pos hcs]
   simp
  have hk:=knot_f (topM ((l.take (halfN l.length)).map leafD)) (topM ((l.drop (halfN l.length)).map leafD)) (by omega)
  have hsf:=sha_f (knotT (topM ((l.take (halfN l.length)).map leafD)) (topM ((l.drop (halfN l.length)).map leafD))) (by omega)
  rw [← e]
  have w:wrap64 (2 * (halfN l.length:Int))=2 * (halfN l.length:Int):=by unfold wrap64;omega
  rw [w]
  refine Ev.neg (by omega) (Ev.pos (by omega) (Ev.pos (by omega) (Ev.bind i1 (Ev.bind i2 (Ev.call hk (Ev.call hc (Ev.pos (by rw [List.length_append];omega) (Ev.call hsf (Ev.some_ ?_)))))))))
  rw [← textsM_two l h,topM_two (l.map leafD) (by rw [List.length_map];omega),List.length_map,List.map_take,List.map_drop]
  rfl
 | succ d ih =>
  intro j hj
  have:=ih (j+1) (by omega)
  have hle:2 ^ (j+1)≤halfN l.length:=Nat.pow_le_pow_right (by decide) (by omega)
  rw [Nat.pow_succ] at this hle
  refine Ev.succ ?_
  simp only [merkle_texts.l0]
  generalize 2 ^ j=x at this hle ⊢
  have w:wrap64 ((x:Int) * 2)=((x * 2:Nat):Int):=by unfold wrap64;omega
  have w2:wrap64 (2 * (x:Int))=2 * (x:Int):=by unfold wrap64;omega
  rw [w,w2]
  exact Ev.pos (by omega) this
theorem texts_ev (n:Nat):∀ l:List ByteArray,l.length=n→1≤n→n≤1000→(∀ s∈l,s.size≤60000)→Ev (fun k=>merkle_texts.f k l) (textsM l,topM (l.map leafD)):=by
 induction n using Nat.strongRecOn with
 | _ n ih =>
  intro l hl h1 hn hs
  refine Ev.succ ?_
  simp only [merkle_texts.f]
  by_cases h:n=1
  ·
   obtain ⟨a,rfl⟩:=list1 l (by omega)
   have ha:=hs a (by simp)
   have hr:rdOf ByteArray.empty [a] 0=a:=rfl
   rw [hr,leaf_f a (by omega)]
   refine Ev.pos rfl (Ev.pos (by simp) (Ev.pos (by omega) (Ev.some_bind (Ev.some_ ?_))))
   rw [textsM_one]
   show ([leafT a],leafD a)=([leafT a],topM [leafD a])
   rw [topM_one]
  ·
   have hlt:=halfN_lt l.length (by omega)
   have hps:=halfN_pos l.length
   have e1:(l.take (halfN l.length)).length=halfN l.length:=by rw [List.length_take];exact Nat.min_eq_left (by omega)
   have e2:(l.drop (halfN l.length)).length=l.length - halfN l.length:=List.length_drop
   have i1:=ih _ (by omega) (l.take (halfN l.length)) e1 (by omega) (by omega) (fun s hx=>hs s (List.mem_of_mem_take hx))
   have i2:=ih _ (by omega) (l.drop (halfN l.length)) e2 (by omega) (by omega) (fun s hx=>hs s (List.mem_of_mem_drop hx))
   exact Ev.neg (by omega) (texts_l0 l (by omega) (by omega) hs i1 i2 _ 0 (Nat.zero_add _))
theorem reftexts_l0 (l:List ByteArray) (h:2≤l.length) (hn:l.length≤1000) (hs:∀ s∈l,s.size≤60000) (d:Nat) :
  ∀ j:Nat,j+d=(textsM (l.drop (halfN l.length))).length→Ev (fun k=>mosaicref03_texts.l0 k l (halfN l.length:Int) (textsM (l.take (halfN l.length)) ++ (textsM (l.drop (halfN l.length))).take j) (textsM (l.drop (halfN l.length))) (j:Int)) (textsM l):=by
 have hlt:=halfN_lt l.length h
 have hps:=halfN_pos l.length
 have e1:(l.take (halfN l.length)).length=halfN l.length:=by rw [List.length_take];exact Nat.min_eq_left (by omega)
 have e2:(l.drop (halfN l.length)).length=l.length - halfN l.length:=List.length_drop
 have t1:=textsM_length _ (l.take (halfN l.length)) e1 (by omega)
 have t2:=textsM_length _ (l.drop (halfN l.length)) e2 (by omega)
 induction d with
 | zero =>
  intro j hj
  refine Ev.succ ?_
  simp only [mosaicref03_texts.l0]
  have z1:=topM_size _ ((l.take (halfN l.length)).map leafD) rfl (by rw [List.length_map,e1];omega) (leafs_size _)
  have z2:=topM_size _ ((l.drop (halfN l.length)).map leafD) rfl (by rw [List.length_map,e2];omega) (leafs_size _)
  rw [show (textsM (l.drop (halfN l.length))).take j=textsM (l.drop (halfN l.length)) from List.take_of_length_le (by omega)]
  refine Ev.neg (by omega) (Ev.pos (by omega) (Ev.pos (by omega) (Ev.bind (refTop_ev _ (l.take (halfN l.length)) rfl (by omega) (by omega) (fun s hx=>hs s (List.mem_of_mem_take hx))) (Ev.bind (refTop_ev _ (l.drop (halfN l.length)) rfl (by omega) (by omega) (fun s hx=>hs s (List.mem_of_mem_drop hx)))
   (Ev.call (knotText_f _ _ (by omega)) (Ev.pos (by rw [List.length_append];omega) (Ev.some_ (textsM_two l h).symm)))))))
 | succ d ih =>
  intro j hj
  refine Ev.succ ?_
  simp only [mosaicref03_texts.l0]
  have:=ih (j+1) (by omega)
  rw [take_getD _ j (by omega),← List.append_assoc] at this
  rw [rdOf_at,wrap_succ j (by omega)]
  exact Ev.pos (by omega) (Ev.pos (by omega) (Ev.pos (by rw [List.length_append,List.length_take];omega) this))
theorem reftexts_ev (n:Nat):∀ l:List ByteArray,l.length=n→1≤n→n≤1000→(∀ s∈l,s.size≤60000)→Ev (fun k=>mosaicref03_texts.f k l) (textsM l):=by
 induction n using Nat.strongRecOn with
 | _ n ih =>
  intro l hl h1 hn hs
  refine Ev.succ ?_
  simp only [mosaicref03_texts.f]
  by_cases h:n=1
  ·
   obtain ⟨a,rfl⟩:=list1 l (by omega)
   have ha:=hs a (by simp)
   refine Ev.pos rfl (Ev.pos (by simp) (Ev.call (leafText_f _ (by show a.size≤_;omega)) (Ev.some_ ?_)))
   rw [textsM_one]
   rfl
  ·
   have hlt:=halfN_lt l.length (by omega)
   have hps:=halfN_pos l.length
   have e1:(l.take (halfN l.length)).length=halfN l.length:=by rw [List.length_take];exact Nat.min_eq_left (by omega)
   have e2:(l.drop (halfN l.length)).length=l.length - halfN l.length:=List.length_drop
   have i1:=ih _ (by omega) (l.take (halfN l.length)) e1 (by omega) (by omega) (fun s hx=>hs s (List.mem_of_mem_take hx))
   have i2:=ih _ (by omega) (l.drop (halfN l.length)) e2 (by omega) (by omega) (fun s hx=>hs s (List.mem_of_mem_drop hx))
   have hl0:=reftexts_l0 l (by omega) (by omega) hs _ 0 (Nat.zero_add _)
   rw [List.take_zero,List.append_nil] at hl0
   exact Ev.neg (by omega) (Ev.bind (half_ev l.length (by omega) (by omega)) (Ev.pos (by omega) (Ev.pos (by omega) (Ev.bind i1 (Ev.bind i2 hl0)))))
def textsP (l:List ByteArray):List ByteArray:=if mayM l=0 then textsM l else []
theorem Texts_ev (l:List ByteArray):Ev (fun k=>merkle_Texts.f k l) (textsP l):=by
 unfold merkle_Texts.f textsP
 refine Ev.call (show merkle_may.f l=some (mayM l) from rfl) ?_
 by_cases h:mayM l=0
 ·
  obtain ⟨h1,h2,h3⟩:=mayM_zero h
  rw [if_pos h]
  exact Ev.pos h (Ev.bind (texts_ev l.length l rfl h1 (by omega) (fun s hs=>by have:=h3 s hs;omega)) (Ev.some_ rfl))
 ·
  rw [if_neg h]
  exact Ev.neg h (Ev.some_ rfl)
theorem refTexts_ev (l:List ByteArray):Ev (fun k=>mosaicref03_Texts.f k l) (textsP l):=by
 unfold mosaicref03_Texts.f textsP
 refine Ev.bind (refMay_ev l) ?_
 by_cases h:mayM l=0
 ·
  obtain ⟨h1,h2,h3⟩:=mayM_zero h
  rw [if_pos h]
  exact Ev.pos h (Ev.bind (reftexts_ev l.length l rfl h1 (by omega) (fun s hs=>by have:=h3 s hs;omega)) (Ev.some_ rfl))
 ·
  rw [if_neg h]
  exact Ev.neg h (Ev.some_ rfl)
/-! ### The path of a leaf folds to the root -/
/-! ### What folds to the root -/
/-! ### A witness is told where there is one -/
end Go.Proofs.Ytelcaepenfjloaa.Pure
/-! #### PureMer5 -/
/- The index of a law, the path's sizes, the last text of a road. -/
namespace Go.Proofs.Ytelcaepenfjloaa.Pure
open Go.RowKit Go.Proofs.Ytelcaepenfjloaa.Print Go.Proofs.YtelcaepenfjloaaW.PrintWords Go.Proofs.YtelcaepenfjloaaW.PrintLast Go.Proofs.YtelcaepenfjloaaW.PrintMore
set_option linter.unusedVariables false
set_option linter.unusedSimpArgs false
theorem rdOf_last (t:List ByteArray) (x:ByteArray) (h:t.length≤100000):rdOf ByteArray.empty (t ++ [x]) (wrap64 (((t ++ [x]).length:Int) - 1))=x:=by
 have:wrap64 (((t ++ [x]).length:Int) - 1)=(t.length:Int):=by
  rw [List.length_append]
  simp only [List.length_singleton]
  unfold wrap64
  omega
 rw [this,rdOf_at]
 simp [List.getD_eq_getElem?_getD]
end Go.Proofs.Ytelcaepenfjloaa.Pure
/-! #### PureMerkleTexts -/
/- The texts of any list are the document's, are 2n-1, and the last one's sum is the root; up to 25 leaves of up to 1,100 bytes. -/
namespace Go.Proofs.Ytelcaepenfjloaa.Pure
open Go.RowKit Go.Proofs.Ytelcaepenfjloaa.Print Go.Proofs.YtelcaepenfjloaaW.PrintWords Go.Proofs.YtelcaepenfjloaaW.PrintLast
set_option linter.unusedVariables false
theorem MerkleTexts:mosaiclaw03_MerkleTexts.Pure:=by
 intro l hl
 refine Ev.rounds ?_
 unfold mosaiclaw03_MerkleTexts.f
 obtain ⟨b,hb,hf⟩:=few_ev l 25 1100 (by omega)
 refine Ev.bind hb ?_
 cases b with
 | false=>exact Ev.neg (by simp) (Ev.bind awake03 (Ev.some_ rfl))
 | true =>
  obtain ⟨h1,h2⟩:=hf rfl
  have hz:(textsP l).length≤100:=by
   unfold textsP
   split
   ·
    rename_i h
    obtain ⟨a,_,_⟩:=mayM_zero h
    rw [textsM_length _ l rfl a]
    omega
   ·
    simp
  refine Ev.pos rfl (Ev.bind (Texts_ev l) (Ev.bind (refTexts_ev l) (Ev.bind (same_ev _ (by omega)) (Ev.pos rfl (Ev.bind (Root_ev l) ?_)))))
  by_cases h:mayM l=0
  ·
   rw [if_pos h]
   obtain ⟨a,b,c⟩:=mayM_zero h
   have hlen:=textsM_length _ l rfl a
   obtain ⟨t,ht⟩:=textsM_last l a
   have hsz:(lastT l).size≤60001:=textsM_size _ l rfl a (fun s hs=>by have:=c s hs;omega) _ (by rw [ht];simp)
   have e:textsP l=t ++ [lastT l]:=by unfold textsP;rw [if_pos h,ht]
   have htl:t.length≤100:=by rw [e,List.length_append] at hz;omega
   have hp:(t ++ [lastT l]).length=2 * l.length - 1:=by rw [← ht,hlen]
   rw [e]
   have w:wrap64 (((t ++ [lastT l]).length:Int) - 1)=(t.length:Int):=by
    rw [List.length_append]
    simp only [List.length_singleton]
    unfold wrap64
    omega
   have hr:=rdOf_last t (lastT l) (by omega)
   rw [w] at hr ⊢
   refine Ev.pos rfl (Ev.bind awake03 (Ev.pos rfl (Ev.pos ?_ (Ev.pos (by omega) (Ev.pos (by rw [List.length_append];simp only [List.length_singleton];omega) ?_)))))
   ·
    have w1:wrap64 (2 * (l.length:Int))=2 * (l.length:Int):=by unfold wrap64;omega
    have w2:wrap64 (2 * (l.length:Int) - 1)=2 * (l.length:Int) - 1:=by unfold wrap64;omega
    rw [w1,w2]
    omega
   ·
    rw [hr]
    refine Ev.bind (refsum_ev _ (by omega)) (Ev.some_ ?_)
    rw [lastT_sum l a]
    simp
  ·
   rw [if_neg h]
   refine Ev.neg h (Ev.bind awake03 (Ev.pos rfl (Ev.some_ ?_)))
   unfold textsP
   rw [if_neg h]
   rfl
end Go.Proofs.Ytelcaepenfjloaa.Pure
/-! #### LawMerkleTexts -/
/- The given statement MerkleTextsSaid is proved: the law mosaiclaw03_MerkleTexts returns true for every input, without a panic; out of its pure statement (YtelcaepenfjloaaPureMerkleTexts) and the walks of the functions that it reaches; no condition beyond the statement's own. -/
namespace Go.Proofs.Ytelcaepenfjloaa.merkleTexts
open Go.ChangeShapes Go.WideShapes Go.ChangeAt Go.RowKit Go.Proofs.Ytelcaepenfjloaa.Print Go.Proofs.YtelcaepenfjloaaW.PrintWords Go.Proofs.Ytelcaepenfjloaa.Open
open Go.ChangeMaps (open_string shut_string)
set_option linter.unusedVariables false
set_option linter.unusedSimpArgs false
theorem own:ownKnob Try.prog.godebug=none:=by kernel_rfl
theorem laidOut:laidOutB Try.prog=true:=by kernel_rfl
set_option maxRecDepth 100000 in
theorem lifted (os:Os) (started:os.Started) (H:Type) (enc:TypeId×Value→H) :
  ReturnsInHanded {} Try.checked os 20 .any (Rows.merkleTextsSpec.pre6 enc Try.prog Try.f20 Rows.merkleTextsRow.domain false) (Rows.merkleTextsSpec.post enc Try.prog Try.f20 false true false false):=by
 refine returnsInHanded_of_change_sized (C:=Try.checked) own started (by kernel_rfl) Try.func20
  (ChangeSpec.witness6 (enc:=enc) (C:=Try.checked) false ⟨#[],#[.slice none 0 0],[]⟩ 8 (by kernel_rfl) (by kernel_rfl) (by kernel_rfl) (by kernel_rfl)) ?_
 intro W base args ds gs before hval0 hW hcnd hsz0 _
 have hval:∀ (j:Nat) t v,Try.f20.params[j]?=some t→args[j]?=some v→Value.okWide Try.prog W .any base t v:=hval0
 have hW':=hW
 obtain ⟨p,q,hA0,hV,rfl,hfz,hnd⟩:=hW
 have hA:DataW.TrodAll enc Try.prog W 0 (fun _=>true) true Try.f20.params.toList args.toList ds p:=hA0
 rw [Try.params20] at hA hval
 obtain ⟨v0,vs0,d0,ds0,p0,q0,hargs,rfl,rfl,h0,r0⟩:=trodAll_cons hA
 obtain ⟨rfl,rfl,rfl⟩:=trodAll_nil r0
 obtain rfl:args=#[v0]:=by cases args;simp_all
 obtain ⟨rfl,rfl⟩:=trodVars_none hV
 have lt0:∀ x∈p0,x.block < W.heap.size:=by obtain ⟨m,hm⟩:=h0;exact DataW.trod_lt m _ _ _ hm
 have k0:=h0
 have one0:v0.cells.toList=[v0]:=by obtain ⟨a_,len_,cap_,rfl⟩:=okWide_slice Try.underlying39 (hval 0 39 v0 rfl rfl);rfl
 obtain ⟨A0,c0,l0,rfl,hc0,hr0,hq0⟩:=arg_slice opens39 one0 h0
 clear hA0 hval0 hsz0
 obtain ⟨kk,hkk⟩:=Pure.MerkleTexts (l0) hq0
 refine (mosaiclaw03_MerkleTexts.callsT kk A0 c0 l0 W hr0 hc0 hkk).mono ?_
 rintro e W' ⟨rfl,hd_⟩
 have bel:Below W.heap.size W W':=hd_
 exact ⟨_,rfl,_,_,_,[],_,[],hW',trodAll_mk1 (shut_bool Try.underlying4 _),(trodAll_cons_mk (Below.trod laidOut (by kernel_rfl) (of_decide_eq_true (by kernel_rfl)) k0 bel lt0) trodAll_mk0),rfl,bel.frame _,fun h=>by cases h⟩
theorem facts:joinedFacts Try.pinned.checked.prog 20 Try.f20 Rows.merkleTextsSpec Rows.merkleTextsRow=true:=by
 unfold joinedFacts
 simp only [Bool.and_eq_true]
 repeat' apply And.intro
 any_goals (with_reducible exact Fct.mayEnter)
 any_goals ((with_reducible refine Fct.lifts _ ?_);rfl)
 any_goals ((with_reducible refine Fct.make_ _ ?_);rfl)
 all_goals (as_aux_lemma=>kernel_rfl)
theorem over:Rows.merkleTextsRow.holds Try.pinned (OpenSpec.ofChange Rows.merkleTextsSpec) :=
 OpenClaim.holds_of_wide 20 Try.f20 rfl rfl rfl rfl rfl rfl rfl ⟨rfl,rfl,rfl,rfl,rfl⟩ rfl rfl rfl rfl rfl (by as_aux_lemma=>kernel_rfl) Try.func20 facts
  (of_decide_eq_true (by as_aux_lemma=>kernel_rfl)) (by unfold Func.isWrapper;first|(rw [if_pos (by decide +kernel)];as_aux_lemma=>kernel_rfl)|(rw [if_neg (by decide +kernel)];exact ⟨rfl,rfl⟩))
  (fun os started H enc _=>lifted os started H enc)
theorem proved:Rows.MerkleTextsSaid:=over
#print axioms proved
end Go.Proofs.Ytelcaepenfjloaa.merkleTexts
namespace Go.Proofs.Ytelcaepenfjloaa
/-- The row, under a short name, for the claim. -/
theorem merkleTexts_holds:Rows.MerkleTextsSaid:=merkleTexts.proved
end Go.Proofs.Ytelcaepenfjloaa
