/- The proof of the statement MerkleDigests of the seat, part 6 of 7: the functions that it reaches, as plain functions, with the walks that show it, and what they come to; the last part ends in the row. No condition beyond the statement's own. -/
import Derived.Test.YtelcaepenfjloaaBMerkleDigests1
import Derived.Test.YtelcaepenfjloaaBMerkleDigests3
import Derived.Test.YtelcaepenfjloaaBMerkleDigests4
import Derived.Test.YtelcaepenfjloaaBMerkleDigests5
/-! #### Pr56 -/
namespace Go.Proofs.Ytelcaepenfjloaa.Print
open Go.RowKit Go.Proofs.YtelcaepenfjloaaW.PrintWords Go.Proofs.YtelcaepenfjloaaW.PrintLast Go.Proofs.YtelcaepenfjloaaW.PrintMore
attribute [local go_sem] max2_int min2_int max_two min_two max_three min_three max_four min_four
set_option linter.unusedVariables false
set_option linter.unusedSimpArgs false
/-! ### mosaicref03_Depth: function 56 -/
mutual
def mosaicref03_Depth.j0:Nat→Int→Int→Bool→Option (Int)
 | 0,_,_,_=>none
 | k+1,x0,x1,x21=>if x21=true then (some (-1)) else (mosaicref03_Depth.l0 k x0 x1 0)
def mosaicref03_Depth.l0:Nat→Int→Int→Int→Option (Int)
 | 0,_,_,_=>none
 | k+1,x0,x1,x5=>if x0 > 1 then ((mosaicref03_half.f k x0).bind fun t375=>(if x1 < t375 then (mosaicref03_Depth.l0 k t375 x1 (wrap64 (x5+1))) else (mosaicref03_Depth.l0 k (wrap64 (x0 - t375)) (wrap64 (x1 - t375)) (wrap64 (x5+1))))) else (some x5)
end
def mosaicref03_Depth.f (k:Nat) (a0:Int) (a1:Int):Option (Int):=if a0 < 1 then (mosaicref03_Depth.j0 k a0 a1 true) else (if a0 > 256 then (mosaicref03_Depth.j0 k a0 a1 true) else (if a1 < 0 then (mosaicref03_Depth.j0 k a0 a1 true) else (mosaicref03_Depth.j0 k a0 a1 (decide (a1≥a0)))))
theorem mosaicref03_Depth.mono_l:∀ k,(∀ y0 y1 y2,LeO (mosaicref03_Depth.j0 k y0 y1 y2) (mosaicref03_Depth.j0 (k+1) y0 y1 y2))∧(∀ y0 y1 y2,LeO (mosaicref03_Depth.l0 k y0 y1 y2) (mosaicref03_Depth.l0 (k+1) y0 y1 y2))
 | 0=>⟨fun _ _ _ r h=>by simp [mosaicref03_Depth.j0] at h,fun _ _ _ r h=>by simp [mosaicref03_Depth.l0] at h⟩
 | k+1=>by
  obtain ⟨ih0,ih1⟩:=mosaicref03_Depth.mono_l k
  refine ⟨?_,?_⟩
  ·
   intro y0 y1 y2
   unfold mosaicref03_Depth.j0
   repeat' first
   | (with_reducible exact ih0 _ _ _)
   | (with_reducible exact ih1 _ _ _)
   | (with_reducible exact mosaicref03_half.mono _ _)
   | (with_reducible exact LeO.refl _)
   | (with_reducible exact LeO.none _)
   | (with_reducible refine LeO.ite ?_ ?_)
   | (with_reducible refine LeO.bind ?_ (fun _=>?_))
   | exact ih0 _ _ _
   | exact ih1 _ _ _
   | exact mosaicref03_half.mono _ _
   | exact LeO.none _
   | refine LeO.ite ?_ ?_
   | refine LeO.bind ?_ (fun _=>?_)
  ·
   intro y0 y1 y2
   unfold mosaicref03_Depth.l0
   repeat' first
   | (with_reducible exact ih0 _ _ _)
   | (with_reducible exact ih1 _ _ _)
   | (with_reducible exact mosaicref03_half.mono _ _)
   | (with_reducible exact LeO.refl _)
   | (with_reducible exact LeO.none _)
   | (with_reducible refine LeO.ite ?_ ?_)
   | (with_reducible refine LeO.bind ?_ (fun _=>?_))
   | exact ih0 _ _ _
   | exact ih1 _ _ _
   | exact mosaicref03_half.mono _ _
   | exact LeO.none _
   | refine LeO.ite ?_ ?_
   | refine LeO.bind ?_ (fun _=>?_)
theorem mosaicref03_Depth.mono:∀ a0 a1 k,LeO (mosaicref03_Depth.f k a0 a1) (mosaicref03_Depth.f (k+1) a0 a1):=by
 intro a0 a1 k
 obtain ⟨ih0,ih1⟩:=mosaicref03_Depth.mono_l k
 unfold mosaicref03_Depth.f
 repeat' first
   | (with_reducible exact ih0 _ _ _)
   | (with_reducible exact ih1 _ _ _)
   | (with_reducible exact mosaicref03_half.mono _ _)
   | (with_reducible exact LeO.refl _)
   | (with_reducible exact LeO.none _)
   | (with_reducible refine LeO.ite ?_ ?_)
   | (with_reducible refine LeO.bind ?_ (fun _=>?_))
   | exact ih0 _ _ _
   | exact ih1 _ _ _
   | exact mosaicref03_half.mono _ _
   | exact LeO.none _
   | refine LeO.ite ?_ ?_
   | refine LeO.bind ?_ (fun _=>?_)
set_option maxHeartbeats 8000000 in
set_option maxRecDepth 100000 in
theorem mosaicref03_Depth.calls (k:Nat) (a0:Int) (a1:Int) (r:Int) (w:World) (h:mosaicref03_Depth.f k a0 a1=some r) :
  Calls Try.prog 56 #[.int .i64 a0,.int .i64 a1] w fun e w'=>e=.returned (.int .i64 r)∧Drawn0 w w':=by
 have H:(if a0 < 1 then (mosaicref03_Depth.j0 k a0 a1 true) else (if a0 > 256 then (mosaicref03_Depth.j0 k a0 a1 true) else (if a1 < 0 then (mosaicref03_Depth.j0 k a0 a1 true) else (mosaicref03_Depth.j0 k a0 a1 (decide (a1≥a0))))))=some r:=h
 clear h
 have HC3:=Aside0.mk H
 clear H
 go_enter Try.func56,Try.ntmps56
 go_upto_region 1 with (fail)
 go_cut [21] (fun v21 wc=>∃ (kq:Nat) (x21_2:Bool),v21=.bool x21_2∧Aside0 (mosaicref03_Depth.j0 kq a0 a1 x21_2=some r)∧Aside0 (kq≤k)∧Drawn0 w wc)
 case first =>
  have H:=HC3.out
  clear HC3
  by_cases c4:a0 < 1
  ·
   rw [if_pos c4] at H
   have c4b0:decide (a0 < 1)=true:=decide_eq_true c4
   clear c4
   (first|rw [c4b0]|(simp only [i64_w,i32_w];rw [c4b0])|skip)
   have H':=Aside0.mk H
   clear H
   go_wp2
   go_meet
   case rel=>exact ⟨_,(true),(by first|rfl|(simp;done)|(simp [*];done)),H',⟨by first|omega|exact Nat.le_refl _⟩,by repeat (first|exact Drawn0.refl _|apply Drawn0.step)⟩
  ·
   rw [if_neg c4] at H
   have c4b0:decide (a0 < 1)=false:=decide_eq_false c4
   clear c4
   (first|rw [c4b0]|(simp only [i64_w,i32_w];rw [c4b0])|skip)
   by_cases c5:a0 > 256
   ·
    rw [if_pos c5] at H
    have c5b0:decide (256 < a0)=true:=decide_eq_true c5
    clear c5
    have H':=Aside0.mk H
    clear H
    go_wp2
    go_meet
    case rel=>exact ⟨_,(true),(by first|rfl|(simp;done)|(simp [*];done)),H',⟨by first|omega|exact Nat.le_refl _⟩,by repeat (first|exact Drawn0.refl _|apply Drawn0.step)⟩
   ·
    rw [if_neg c5] at H
    have c5b0:decide (256 < a0)=false:=decide_eq_false c5
    clear c5
    by_cases c6:a1 < 0
    ·
     rw [if_pos c6] at H
     have c6b0:decide (a1 < 0)=true:=decide_eq_true c6
     clear c6
     have H':=Aside0.mk H
     clear H
     go_wp2
     go_meet
     case rel=>exact ⟨_,(true),(by first|rfl|(simp;done)|(simp [*];done)),H',⟨by first|omega|exact Nat.le_refl _⟩,by repeat (first|exact Drawn0.refl _|apply Drawn0.step)⟩
    ·
     rw [if_neg c6] at H
     have c6b0:decide (a1 < 0)=false:=decide_eq_false c6
     clear c6
     have H':=Aside0.mk H
     clear H
     go_wp2
     go_meet
     case rel=>exact ⟨_,(decide (a1≥a0)),(by first|rfl|(simp;done)|(simp [*];done)),H',⟨by first|omega|exact Nat.le_refl _⟩,by repeat (first|exact Drawn0.refl _|apply Drawn0.step)⟩
 case rest =>
  clear HC3
  try clear p2
  try clear c4
  try clear c4b0
  try clear c5
  try clear c5b0
  try clear c6
  try clear c6b0
  obtain ⟨kq,x21_2,rfl,HA,HJ2,⟨mc2,rfl⟩⟩:=hcut
  cases kq with
  | zero=>exact absurd HA.out (by simp [mosaicref03_Depth.j0])
  | succ kj2 =>
   have H:=HA.out
   clear HA
   simp only [mosaicref03_Depth.j0] at H
   by_cases c7:x21_2=true
   ·
    subst c7
    have H1:(some (-1))=some r:=by rw [if_pos rfl] at H;exact H
    clear H
    have H:=H1
    clear H1
    obtain rfl:=Option.some.inj H
    go_wp2
    go_ret
    exact ⟨by first|rfl|(simp;done)|(simp [*];done),by repeat (first|exact Drawn0.refl _|apply Drawn0.step)⟩
   ·
    replace c7:=Bool.eq_false_iff.mpr c7
    subst c7
    have H1:(mosaicref03_Depth.l0 kj2 a0 a1 0)=some r:=by rw [if_neg (show ¬ (false=true) by decide)] at H;exact H
    clear H
    have H:=H1
    clear H1
    have H':=Aside0.mk H
    clear H
    go_wp2
    go_loopg [0,1,5] kj2 (fun kq v0 v1 v5 w'=>∃ (x0_2:Int) (x1_2:Int) (x5_2:Int),v0=.int .i64 x0_2∧v1=.int .i64 x1_2∧v5=.int .i64 x5_2∧Aside0 (mosaicref03_Depth.l0 kq x0_2 x1_2 x5_2=some r)∧Aside0 (kq≤kj2)∧Drawn0 w w')
    case atStart=>exact ⟨(a0),(a1),(0),(by first|rfl|(simp;done)|(simp [*];done)),(by first|rfl|(simp;done)|(simp [*];done)),(by first|rfl|(simp;done)|(simp [*];done)),H',⟨Nat.le_refl _⟩,by repeat (first|exact Drawn0.refl _|apply Drawn0.step)⟩
    case round =>
     clear H'
     try clear c2
     try clear p2
     try clear c4
     try clear c4b0
     try clear c5
     try clear c5b0
     try clear c6
     try clear c6b0
     try clear c7
     try clear p2
     obtain ⟨x0_2,x1_2,x5_2,rfl,rfl,rfl,HA,HK2,⟨m2,rfl⟩⟩:=hrel
     cases gk with
     | zero=>exact absurd HA.out (by simp [mosaicref03_Depth.l0])
     | succ k2 =>
      have H:=HA.out
      clear HA
      simp only [mosaicref03_Depth.l0] at H
      by_cases c8:x0_2 > 1
      ·
       rw [if_pos c8] at H
       have c8b0:decide (1 < x0_2)=true:=decide_eq_true c8
       clear c8
       replace H:=Option.bind_eq_some_iff.mp H
       obtain ⟨t375,A90,H⟩:=H
       replace H:(if x1_2 < t375 then (mosaicref03_Depth.l0 k2 t375 x1_2 (wrap64 (x5_2+1))) else (mosaicref03_Depth.l0 k2 (wrap64 (x0_2 - t375)) (wrap64 (x1_2 - t375)) (wrap64 (x5_2+1))))=some r:=H
       have A9:=Aside0.mk A90
       clear A90
       by_cases c10:x1_2 < t375
       ·
        rw [if_pos c10] at H
        have c10b0:decide (x1_2 < t375)=true:=decide_eq_true c10
        clear c10
        have H':=Aside0.mk H
        clear H
        go_wp2_with (first|((with_reducible refine gate_callee (f:=99) rfl ?_);refine goesL_ (some 25) rfl rfl Try.func99 (by kernel_rfl) rfl #[.int .i64 x0_2] rfl (by (try simp only [List.map_toArray,List.map_cons,List.map_nil]);first|done|rfl|(simp only [List.length_drop,List.length_take];rfl)) ?_;(with_reducible refine (mosaicref03_half.calls k2 x0_2 t375 _ A9.out).mono ?_);rintro e w' ⟨rfl,⟨nd,rfl⟩⟩;refine ⟨_,rfl,?_⟩))
        go_roundg k2
        case measure=>have:=HJ2.out;have:=HK2.out;omega
        case rel=>exact ⟨(t375),(x1_2),(wrap64 (x5_2+1)),(by first|rfl|(simp;done)|(simp [*];done)),(by first|rfl|(simp;done)|(simp [*];done)),(by first|rfl|(simp;done)|(simp [*];done)),H',⟨by have:=HJ2.out;have:=HK2.out;omega⟩,by repeat (first|exact Drawn0.refl _|apply Drawn0.step)⟩
       ·
        rw [if_neg c10] at H
        have c10b0:decide (x1_2 < t375)=false:=decide_eq_false c10
        clear c10
        have H':=Aside0.mk H
        clear H
        go_wp2_with (first|((with_reducible refine gate_callee (f:=99) rfl ?_);refine goesL_ (some 25) rfl rfl Try.func99 (by kernel_rfl) rfl #[.int .i64 x0_2] rfl (by (try simp only [List.map_toArray,List.map_cons,List.map_nil]);first|done|rfl|(simp only [List.length_drop,List.length_take];rfl)) ?_;(with_reducible refine (mosaicref03_half.calls k2 x0_2 t375 _ A9.out).mono ?_);rintro e w' ⟨rfl,⟨nd,rfl⟩⟩;refine ⟨_,rfl,?_⟩))
        go_roundg k2
        case measure=>have:=HJ2.out;have:=HK2.out;omega
        case rel=>exact ⟨(wrap64 (x0_2 - t375)),(wrap64 (x1_2 - t375)),(wrap64 (x5_2+1)),(by first|rfl|(simp;done)|(simp [*];done)),(by first|rfl|(simp;done)|(simp [*];done)),(by first|rfl|(simp;done)|(simp [*];done)),H',⟨by have:=HJ2.out;have:=HK2.out;omega⟩,by repeat (first|exact Drawn0.refl _|apply Drawn0.step)⟩
      ·
       rw [if_neg c8] at H
       have c8b0:decide (1 < x0_2)=false:=decide_eq_false c8
       clear c8
       obtain rfl:=Option.some.inj H
       go_wp2
       go_ret
       exact ⟨by first|rfl|(simp;done)|(simp [*];done),by repeat (first|exact Drawn0.refl _|apply Drawn0.step)⟩
end Go.Proofs.Ytelcaepenfjloaa.Print
/-! #### PureMer2 -/
/- What the functions on lists of texts come to: digests, levels, roots, paths, lengths of paths; the reference's. -/
namespace Go.Proofs.Ytelcaepenfjloaa.Pure
open Go.RowKit Go.Proofs.Ytelcaepenfjloaa.Print Go.Proofs.YtelcaepenfjloaaW.PrintWords Go.Proofs.YtelcaepenfjloaaW.PrintLast Go.Proofs.YtelcaepenfjloaaW.PrintMore
set_option linter.unusedVariables false
set_option linter.unusedSimpArgs false
theorem rdOf_at (l:List ByteArray) (i:Nat):rdOf ByteArray.empty l (i:Int)=l.getD i ByteArray.empty:=by simp [rdOf]
theorem getD_mem (l:List ByteArray) (i:Nat) (h:i < l.length):l.getD i ByteArray.empty∈l:=by
 rw [List.getD_eq_getElem?_getD,List.getElem?_eq_getElem h]
 exact List.getElem_mem h
theorem drop_getD (l:List ByteArray) (i:Nat) (h:i < l.length):l.drop i=l.getD i ByteArray.empty :: l.drop (i+1):=by
 rw [List.drop_eq_getElem_cons h,List.getD_eq_getElem?_getD,List.getElem?_eq_getElem h]
 rfl
theorem take_getD (l:List ByteArray) (i:Nat) (h:i < l.length):l.take (i+1)=l.take i ++ [l.getD i ByteArray.empty]:=by
 rw [List.take_succ_eq_append_getElem h,List.getD_eq_getElem?_getD,List.getElem?_eq_getElem h]
 rfl
theorem digests_l0 (l:List ByteArray) (hl:l.length≤1000) (hs:∀ s∈l,s.size≤65535) (d:Nat):∀ i:Nat,i+d=l.length→Ev (fun k=>merkle_digests.l0 k ((l.take i).map leafD) l (l.length:Int) (i:Int)) (l.map leafD):=by
 induction d with
 | zero =>
  intro i hi
  refine Ev.succ ?_
  simp only [merkle_digests.l0]
  refine Ev.neg (by omega) (Ev.some_ ?_)
  rw [List.take_of_length_le (by omega)]
 | succ d ih =>
  intro i hi
  refine Ev.succ ?_
  simp only [merkle_digests.l0]
  rw [rdOf_at,leaf_f _ (hs _ (getD_mem l i (by omega))),wrap_succ _ (by omega)]
  have:=ih (i+1) (by omega)
  rw [take_getD l i (by omega),List.map_append] at this
  exact Ev.pos (by omega) (Ev.pos (by omega) (Ev.pos (by omega) (Ev.some_bind (Ev.pos (by simp;omega) this))))
theorem digests_ev (l:List ByteArray) (hl:l.length≤1000) (hs:∀ s∈l,s.size≤65535):Ev (fun k=>merkle_digests.f k l) (l.map leafD):=digests_l0 l hl hs l.length 0 (by omega)
theorem pairs_l0 (l:List ByteArray) (hl:l.length≤1000) (hs:∀ s∈l,s.size=32) (d:Nat):∀ (i:Nat) (acc:List ByteArray),i≤l.length→l.length - i=d→acc.length≤i→Ev (fun k=>merkle_pairs.l0 k l acc (i:Int)) (acc ++ pairsM (l.drop i)):=by
 induction d using Nat.strongRecOn with
 | _ d ih =>
  intro i acc hi hd ha
  refine Ev.succ ?_
  simp only [merkle_pairs.l0]
  have e1:wrap64 ((i:Int)+1)=((i+1:Nat):Int):=wrap_succ i (by omega)
  have e2:wrap64 ((i:Int)+2)=((i+2:Nat):Int):=by unfold wrap64;omega
  rw [e1,e2]
  by_cases h0:i=l.length
  ·
   refine Ev.neg (by omega) (Ev.some_ ?_)
   rw [List.drop_of_length_le (by omega)]
   simp [pairsM]
  refine Ev.pos (by omega) ?_
  by_cases h1:i+1=l.length
  ·
   have hN:Ev (fun k=>merkle_pairs.l0 k l (acc ++ [l.getD i ByteArray.empty]) ((i+2:Nat):Int)) (acc ++ pairsM (l.drop i)):=by
    refine Ev.succ ?_
    simp only [merkle_pairs.l0]
    refine Ev.neg (by omega) (Ev.some_ ?_)
    rw [drop_getD l i (by omega),List.drop_of_length_le (by omega)]
    simp [pairsM]
   rw [rdOf_at]
   exact Ev.pos (by omega) (Ev.pos (by omega) (Ev.pos (by omega) hN))
  ·
   rw [rdOf_at,rdOf_at,Knot_f _ _ (by rw [hs _ (getD_mem l i (by omega)),hs _ (getD_mem l (i+1) (by omega))];omega)]
   have:=ih (d - 2) (by omega) (i+2) (acc ++ [knotD (l.getD i ByteArray.empty) (l.getD (i+1) ByteArray.empty)]) (by omega) (by omega) (by simp;omega)
   refine Ev.neg (by omega) (Ev.pos (by omega) (Ev.pos (by omega) (Ev.pos (by omega) (Ev.some_bind (Ev.pos (by omega) (this.to ?_))))))
   rw [drop_getD l i (by omega),drop_getD l (i+1) (by omega),pairsM,List.append_assoc]
   rfl
theorem pairs_ev (l:List ByteArray) (hl:l.length≤1000) (hs:∀ s∈l,s.size=32):Ev (fun k=>merkle_pairs.f k l) (pairsM l):=by
 have:=pairs_l0 l hl hs l.length 0 [] (by omega) (by omega) (by simp)
 rw [List.drop_zero,List.nil_append] at this
 exact this
theorem leafs_size (l:List ByteArray):∀ x∈l.map leafD,x.size=32:=by
 intro x hx
 obtain ⟨y,_,rfl⟩:=List.mem_map.1 hx
 exact leafD_size y
theorem up_ev (n:Nat):∀ l:List ByteArray,l.length=n→1≤n→n≤1000→(∀ s∈l,s.size=32)→Ev (fun k=>merkle_Root.l0 k l) (topM l,0):=by
 induction n using Nat.strongRecOn with
 | _ n ih =>
  intro l hl h1 h2 hs
  refine Ev.succ ?_
  simp only [merkle_Root.l0]
  by_cases h:n=1
  ·
   obtain ⟨a,rfl⟩:=list1 l (by omega)
   refine Ev.pos rfl (Ev.pos (by simp) (Ev.some_ ?_))
   rw [topM_one]
   rfl
  ·
   refine Ev.neg (by omega) (Ev.bind (pairs_ev l (by omega) hs) ?_)
   have hp:=pairsM_length l
   rw [← pairs_top n l hl (by omega)]
   exact ih (pairsM l).length (by omega) _ rfl (by omega) (by omega) (pairsM_size l hs)
theorem mayM_zero {l:List ByteArray} (h:mayM l=0):1≤l.length∧l.length≤256∧∀ s∈l,s.size≤1024:=by
 unfold mayM at h
 split at h
 ·
  simp at h
 ·
  split at h
  ·
   simp at h
  ·
   split at h
   ·
    simp at h
   ·
    rename_i h1 h2 h3
    refine ⟨by omega,by omega,fun s hs=>?_⟩
    rw [Bool.not_eq_true,List.any_eq_false] at h3
    have:=h3 s hs
    unfold longB at this
    simp only [decide_eq_true_eq] at this
    omega
theorem Root_ev (l:List ByteArray):Ev (fun k=>merkle_Root.f k l) (if mayM l=0 then (topM (l.map leafD),0) else ((⟨#[]⟩:ByteArray),mayM l)):=by
 unfold merkle_Root.f
 refine Ev.call (show merkle_may.f l=some (mayM l) from rfl) ?_
 by_cases h:mayM l=0
 ·
  obtain ⟨h1,h2,h3⟩:=mayM_zero h
  rw [if_pos h]
  exact Ev.pos h (Ev.bind (digests_ev l (by omega) (fun s hs=>by have:=h3 s hs;omega)) (up_ev (l.map leafD).length _ rfl (by simpa using h1) (by simp;omega) (leafs_size l)))
 ·
  rw [if_neg h]
  exact Ev.neg h (Ev.some_ rfl)
theorem tdiv2 (i:Nat) (h:i < 1000000):wrap64 (Int.tdiv (i:Int) 2)=((i / 2:Nat):Int):=by
 rw [Int.tdiv_eq_ediv_of_nonneg (by omega)]
 unfold wrap64
 omega
theorem path_l0 (n:Nat):∀ (l:List ByteArray) (i:Nat) (acc:List ByteArray),l.length=n→1≤n→n≤256→i < n→acc.length+n≤2000→(∀ s∈l,s.size=32)→Ev (fun k=>merkle_Path.l0 k (i:Int) acc l) (acc ++ wayM l i,0):=by
 induction n using Nat.strongRecOn with
 | _ n ih =>
  intro l i acc hl h1 h2 hi ha hs
  refine Ev.succ ?_
  simp only [merkle_Path.l0]
  by_cases h:n=1
  ·
   obtain ⟨a,rfl⟩:=list1 l (by omega)
   refine Ev.neg (by simp) (Ev.some_ ?_)
   rw [wayM_one,List.append_nil]
  ·
   have hp:=pairsM_length l
   have hsb:sib i≤i+1:=by unfold sib;split <;> omega
   rw [sib_xor i (by omega),tdiv2 i (by omega),rdOf_at,way_step n l i hl (by omega) hi]
   refine Ev.pos (by omega) ?_
   unfold sibL
   by_cases hc:sib i < l.length
   ·
    have:=ih (pairsM l).length (by omega) (pairsM l) (i / 2) (acc ++ [l.getD (sib i) ByteArray.empty]) rfl (by omega) (by omega) (by omega) (by simp;omega) (pairsM_size l hs)
    rw [List.append_assoc] at this
    rw [if_pos hc]
    exact Ev.pos (by omega) (Ev.pos (by omega) (Ev.pos (by omega) (Ev.bind (pairs_ev l (by omega) hs) this)))
   ·
    have:=ih (pairsM l).length (by omega) (pairsM l) (i / 2) acc rfl (by omega) (by omega) (by omega) (by omega) (pairsM_size l hs)
    rw [if_neg hc]
    exact Ev.neg (by omega) (Ev.bind (pairs_ev l (by omega) hs) this)
def inP (n i:Int):Bool:=decide (1≤n∧n≤256∧0≤i∧i < n)
theorem in_f (n i:Int):merkle_in.f n i=some (inP n i):=by
 unfold merkle_in.f inP
 by_cases a:n≥1
 ·
  rw [if_pos a]
  by_cases b:n≤256
  ·
   rw [if_pos b]
   by_cases c:i≥0
   ·
    rw [if_pos c]
    by_cases d:i < n
    ·
     rw [decide_eq_true d,decide_eq_true (by omega)]
    ·
     rw [decide_eq_false d,decide_eq_false (by omega)]
   ·
    rw [if_neg c,decide_eq_false (by omega)]
  ·
   rw [if_neg b,decide_eq_false (by omega)]
 ·
  rw [if_neg a,decide_eq_false (by omega)]
def pathR (l:List ByteArray) (i:Int):List ByteArray×Int :=
 if mayM l=0 then (if inP l.length i=true then (wayM (l.map leafD) i.toNat,0) else ([],1)) else ([],mayM l)
theorem Path_ev (l:List ByteArray) (i:Int):Ev (fun k=>merkle_Path.f k l i) (pathR l i):=by
 unfold merkle_Path.f pathR
 refine Ev.call (show merkle_may.f l=some (mayM l) from rfl) ?_
 by_cases h:mayM l=0
 ·
  obtain ⟨h1,h2,h3⟩:=mayM_zero h
  rw [if_pos h]
  refine Ev.pos h (Ev.call (in_f _ _) ?_)
  by_cases c:inP l.length i=true
  ·
   rw [if_pos c]
   have c':=of_decide_eq_true c
   refine Ev.pos c (Ev.bind (digests_ev l (by omega) (fun s hs=>by have:=h3 s hs;omega)) ?_)
   have:=path_l0 (l.map leafD).length (l.map leafD) i.toNat [] rfl (by simpa using h1) (by simpa using h2) (by simp;omega) (by simp;omega) (leafs_size l)
   rw [show ((i.toNat:Nat):Int)=i by omega] at this
   exact this
  ·
   rw [if_neg c]
   exact Ev.neg c (Ev.some_ rfl)
 ·
  rw [if_neg h]
  exact Ev.neg h (Ev.some_ rfl)
/-! ### How long a path is -/
theorem depth_one (k:Nat) (n i d:Int):merkle_Depth.l0 (k+1) n i d=if n > 1 then (if (Go.bits .xor .i64 i 1) < n then (merkle_Depth.l0 k (wrap64 (Int.tdiv (wrap64 (n+1)) 2)) (wrap64 (Int.tdiv i 2)) (wrap64 (d+1))) else (merkle_Depth.l0 k (wrap64 (Int.tdiv (wrap64 (n+1)) 2)) (wrap64 (Int.tdiv i 2)) d)) else (some d):=rfl
theorem depth_l0 (j:Nat):∀ (k n i d:Nat),n≤2 ^ j→i < n→n≤256→d+n≤2000→merkle_Depth.l0 (k+j+1) (n:Int) (i:Int) (d:Int)=some ((d+depthM n i:Nat):Int):=by
 induction j with
 | zero =>
  intro k n i d h hi hn hd
  have:n=1:=by simp at h;omega
  subst this
  simp only [merkle_Depth.l0]
  rw [if_neg (by omega),depthM_one _ _ (by omega)]
  rfl
 | succ j ih =>
  intro k n i d h hi hn hd
  by_cases h1:n=1
  ·
   subst h1
   simp only [merkle_Depth.l0]
   rw [if_neg (by omega),depthM_one _ _ (by omega)]
   rfl
  ·
   rw [Nat.pow_succ] at h
   have e1:wrap64 (Int.tdiv (wrap64 ((n:Int)+1)) 2)=(((n+1) / 2:Nat):Int):=by
    rw [wrap_succ n (by omega),tdiv2 _ (by omega)]
   rw [show k+(j+1)+1=(k+j+1)+1 by omega,depth_one,if_pos (by omega),sib_xor i (by omega),e1,tdiv2 i (by omega),wrap_succ d (by omega),depth_step n i (by omega) hi]
   by_cases hc:sib i < n
   ·
    rw [if_pos (by omega),if_pos hc,ih k _ _ _ (by omega) (by omega) (by omega) (by omega)]
    congr 1
    omega
   ·
    rw [if_neg (by omega),if_neg hc,ih k _ _ _ (by omega) (by omega) (by omega) (by omega)]
    congr 1
    omega
def depthR (n i:Int):Int:=if inP n i=true then (depthM n.toNat i.toNat:Int) else -1
theorem Depth_f (k:Nat) (n i:Int):merkle_Depth.f (k+9) n i=some (depthR n i):=by
 unfold merkle_Depth.f depthR
 rw [in_f]
 simp only [Option.bind_some]
 by_cases c:inP n i=true
 ·
  rw [if_pos c,if_pos c]
  have c':=of_decide_eq_true c
  have:=depth_l0 8 k n.toNat i.toNat 0 (by omega) (by omega) (by omega) (by omega)
  rw [show ((n.toNat:Nat):Int)=n by omega,show ((i.toNat:Nat):Int)=i by omega,Nat.zero_add] at this
  exact this
 ·
  rw [if_neg c,if_neg c]
/-! ### The reference's lists -/
theorem topM_size (n:Nat):∀ l:List ByteArray,l.length=n→1≤n→(∀ s∈l,s.size=32)→(topM l).size=32:=by
 intro l hl h1 hs
 by_cases h:n=1
 ·
  obtain ⟨a,rfl⟩:=list1 l (by omega)
  rw [topM_one]
  exact hs a (by simp)
 ·
  rw [topM_two l (by omega)]
  exact knotD_size _ _
theorem depthM_le (n:Nat):∀ i,depthM n i≤n:=by
 induction n using Nat.strongRecOn with
 | _ n ih =>
  intro i
  by_cases h:n≤1
  ·
   rw [depthM_one n i h]
   omega
  ·
   have hlt:=halfN_lt n (by omega)
   have hps:=halfN_pos n
   by_cases c:i < halfN n
   ·
    rw [depthM_left n i (by omega) c]
    have:=ih (halfN n) hlt i
    omega
   ·
    rw [depthM_right n i (by omega) c]
    have:=ih (n - halfN n) (by omega) (i - halfN n)
    omega
theorem few_l0 (l:List ByteArray) (m:Int) (hl:l.length≤1000) (d:Nat):∀ i:Nat,i+d=l.length→∃ b,Ev (fun k=>mosaiclaw03_few.l0 k l m (i:Int)) b∧(b=true→∀ s∈l.drop i,(s.size:Int)≤m):=by
 induction d with
 | zero =>
  intro i hi
  refine ⟨true,Ev.succ ?_,fun _ s hs=>?_⟩
  ·
   simp only [mosaiclaw03_few.l0]
   exact Ev.neg (by omega) (Ev.some_ rfl)
  ·
   rw [List.drop_of_length_le (by omega)] at hs
   simp at hs
 | succ d ih =>
  intro i hi
  obtain ⟨b,h1,h2⟩:=ih (i+1) (by omega)
  by_cases c:((l.getD i ByteArray.empty).size:Int) > m
  ·
   refine ⟨false,Ev.succ ?_,fun h=>by simp at h⟩
   simp only [mosaiclaw03_few.l0]
   rw [rdOf_at]
   exact Ev.pos (by omega) (Ev.pos (by omega) (Ev.pos c (Ev.some_ rfl)))
  ·
   refine ⟨b,Ev.succ ?_,fun hb s hs=>?_⟩
   ·
    simp only [mosaiclaw03_few.l0]
    rw [rdOf_at,wrap_succ i (by omega)]
    exact Ev.pos (by omega) (Ev.pos (by omega) (Ev.neg c h1))
   ·
    rw [drop_getD l i (by omega)] at hs
    rcases List.mem_cons.1 hs with rfl|hs
    ·
     omega
    ·
     exact h2 hb s hs
theorem few_ev (l:List ByteArray) (n m:Int) (hn:n≤1000):∃ b,Ev (fun k=>mosaiclaw03_few.f k l n m) b∧(b=true→(l.length:Int)≤n∧∀ s∈l,(s.size:Int)≤m):=by
 unfold mosaiclaw03_few.f
 by_cases c:(l.length:Int) > n
 ·
  exact ⟨false,Ev.pos c (Ev.some_ rfl),fun h=>by simp at h⟩
 ·
  obtain ⟨b,h1,h2⟩:=few_l0 l m (by omega) l.length 0 (by omega)
  exact ⟨b,Ev.neg c h1,fun hb=>⟨by omega,h2 hb⟩⟩
/-! ### The page's example -/
theorem halfN_3:halfN 3=2:=by decide
theorem top3 (a b c:ByteArray):topM [a,b,c]=knotD (knotD a b) c:=by
 rw [topM_two _ (by simp)]
 show knotD (topM ([a,b,c].take (halfN 3))) (topM ([a,b,c].drop (halfN 3)))=_
 rw [halfN_3]
 show knotD (topM [a,b]) (topM [c])=_
 rw [topM_one,topM_two _ (by simp)]
 show knotD (knotD (topM ([a,b].take (halfN 2))) (topM ([a,b].drop (halfN 2)))) c=_
 rw [halfN_2]
 show knotD (knotD (topM [a]) (topM [b])) c=_
 rw [topM_one,topM_one]
theorem way30 (a b c:ByteArray):wayM [a,b,c] 0=[b,c]:=by
 rw [wayM_left _ _ (by simp) (by show 0 < halfN 3;rw [halfN_3];omega)]
 show wayM ([a,b,c].take (halfN 3)) 0 ++ [topM ([a,b,c].drop (halfN 3))]=_
 rw [halfN_3]
 show wayM [a,b] 0 ++ [topM [c]]=_
 rw [topM_one,wayM_left _ _ (by simp) (by show 0 < halfN 2;rw [halfN_2];omega)]
 show (wayM ([a,b].take (halfN 2)) 0 ++ [topM ([a,b].drop (halfN 2))]) ++ [c]=_
 rw [halfN_2]
 show (wayM [a] 0 ++ [topM [b]]) ++ [c]=_
 rw [topM_one,wayM_one]
 rfl
theorem way32 (a b c:ByteArray):wayM [a,b,c] 2=[knotD a b]:=by
 rw [wayM_right _ _ (by simp) (by show ¬ 2 < halfN 3;rw [halfN_3];omega)]
 show wayM ([a,b,c].drop (halfN 3)) (2 - halfN 3) ++ [topM ([a,b,c].take (halfN 3))]=_
 rw [halfN_3]
 show wayM [c] 0 ++ [topM [a,b]]=_
 rw [wayM_one,topM_two _ (by simp)]
 show [] ++ [knotD (topM ([a,b].take (halfN 2))) (topM ([a,b].drop (halfN 2)))]=_
 rw [halfN_2]
 show [] ++ [knotD (topM [a]) (topM [b])]=_
 rw [topM_one,topM_one]
 rfl
theorem awake03T:Ev (fun k=>mosaiclaw03_awakeT.f k) true:=by
 unfold mosaiclaw03_awakeT.f
 have hm:mayM [(⟨#[97]⟩:ByteArray),(⟨#[98]⟩:ByteArray),(⟨#[99]⟩:ByteArray)]=0:=by decide +kernel
 have hr:=Root_ev [(⟨#[97]⟩:ByteArray),(⟨#[98]⟩:ByteArray),(⟨#[99]⟩:ByteArray)]
 have p0:=Path_ev [(⟨#[97]⟩:ByteArray),(⟨#[98]⟩:ByteArray),(⟨#[99]⟩:ByteArray)] 0
 have p2:=Path_ev [(⟨#[97]⟩:ByteArray),(⟨#[98]⟩:ByteArray),(⟨#[99]⟩:ByteArray)] 2
 unfold pathR at p0 p2
 rw [if_pos hm] at hr p0 p2
 rw [if_pos (by decide)] at p0 p2
 simp only [List.map_cons,List.map_nil] at hr p0 p2
 rw [top3] at hr
 rw [show (0:Int).toNat=0 from rfl,way30] at p0
 rw [show (2:Int).toNat=2 from rfl,way32] at p2
 have za:(⟨#[97]⟩:ByteArray).size≤65535:=by decide
 have zb:(⟨#[98]⟩:ByteArray).size≤65535:=by decide
 have zc:(⟨#[99]⟩:ByteArray).size≤65535:=by decide
 have sa:=leafD_size ⟨#[97]⟩
 have sb:=leafD_size ⟨#[98]⟩
 have sc:=leafD_size ⟨#[99]⟩
 have sk:=knotD_size (leafD ⟨#[97]⟩) (leafD ⟨#[98]⟩)
 refine Ev.some_bind (Ev.bind hr (Ev.bind p0 (Ev.bind p2 (Ev.call (leaf_f _ za) (Ev.call (leaf_f _ zb) (Ev.call (Knot_f _ _ (by omega)) (Ev.pos rfl (Ev.pos rfl (Ev.pos rfl (Ev.call (leaf_f _ zc) (Ev.call (Knot_f _ _ (by omega)) (Ev.pos rfl (Ev.pos rfl (Ev.pos (by simp) (Ev.call (leaf_f _ zb) (Ev.pos rfl (Ev.pos rfl (Ev.pos (by simp) (Ev.pos rfl (Ev.some_ ?_))))))))))))))))))))
 rw [knotD_size]
 rfl
theorem awake03:Ev (fun k=>mosaiclaw03_awake.f k) true:=by
 obtain ⟨K,h⟩:=awake03T
 refine ⟨K,fun k hk=>?_⟩
 show (if mosaiclaw03_awakeT.f k=some true then some true else none)=some true
 exact if_pos (h k hk)
end Go.Proofs.Ytelcaepenfjloaa.Pure
/-! #### Pr111 -/
namespace Go.Proofs.Ytelcaepenfjloaa.Print
open Go.RowKit Go.Proofs.YtelcaepenfjloaaW.PrintWords Go.Proofs.YtelcaepenfjloaaW.PrintLast Go.Proofs.YtelcaepenfjloaaW.PrintMore
attribute [local go_sem] max2_int min2_int max_two min_two max_three min_three max_four min_four
set_option linter.unusedVariables false
set_option linter.unusedSimpArgs false
/-! ### mosaicref03_folds: function 111 -/
mutual
def mosaicref03_folds.j0:Nat→Int→Int→List ByteArray→Bool→Option (Int)
 | 0,_,_,_,_=>none
 | k+1,x0,x1,x3,x18=>if x18=true then (some 1) else ((mosaicref03_Depth.f k x0 x1).bind fun t616=>(if (x3.length:Int)=t616 then (mosaicref03_folds.l0 k x3 0) else (some 3)))
def mosaicref03_folds.l0:Nat→List ByteArray→Int→Option (Int)
 | 0,_,_=>none
 | k+1,x3,x9=>if x9 < (x3.length:Int) then (if 0≤x9 then (if ((rdOf ByteArray.empty x3 x9).size:Int)=32 then (mosaicref03_folds.l0 k x3 (wrap64 (x9+1))) else (some 3)) else (none)) else (some 0)
end
def mosaicref03_folds.f (k:Nat) (a0:Int) (a1:Int) (a2:ByteArray) (l3:List ByteArray):Option (Int):=(mosaicref03_Depth.f k a0 a1).bind fun t615=>(if t615 < 0 then (mosaicref03_folds.j0 k a0 a1 l3 true) else (mosaicref03_folds.j0 k a0 a1 l3 ((a2.size:Int) != 32)))
theorem mosaicref03_folds.mono_l:∀ k,(∀ y0 y1 y2 y3,LeO (mosaicref03_folds.j0 k y0 y1 y2 y3) (mosaicref03_folds.j0 (k+1) y0 y1 y2 y3))∧(∀ y0 y1,LeO (mosaicref03_folds.l0 k y0 y1) (mosaicref03_folds.l0 (k+1) y0 y1))
 | 0=>⟨fun _ _ _ _ r h=>by simp [mosaicref03_folds.j0] at h,fun _ _ r h=>by simp [mosaicref03_folds.l0] at h⟩
 | k+1=>by
  obtain ⟨ih0,ih1⟩:=mosaicref03_folds.mono_l k
  refine ⟨?_,?_⟩
  ·
   intro y0 y1 y2 y3
   unfold mosaicref03_folds.j0
   repeat' first
   | (with_reducible exact ih0 _ _ _ _)
   | (with_reducible exact ih1 _ _)
   | (with_reducible exact mosaicref03_Depth.mono _ _ _)
   | (with_reducible exact LeO.refl _)
   | (with_reducible exact LeO.none _)
   | (with_reducible refine LeO.ite ?_ ?_)
   | (with_reducible refine LeO.bind ?_ (fun _=>?_))
   | exact ih0 _ _ _ _
   | exact ih1 _ _
   | exact mosaicref03_Depth.mono _ _ _
   | exact LeO.none _
   | refine LeO.ite ?_ ?_
   | refine LeO.bind ?_ (fun _=>?_)
  ·
   intro y0 y1
   unfold mosaicref03_folds.l0
   repeat' first
   | (with_reducible exact ih0 _ _ _ _)
   | (with_reducible exact ih1 _ _)
   | (with_reducible exact mosaicref03_Depth.mono _ _ _)
   | (with_reducible exact LeO.refl _)
   | (with_reducible exact LeO.none _)
   | (with_reducible refine LeO.ite ?_ ?_)
   | (with_reducible refine LeO.bind ?_ (fun _=>?_))
   | exact ih0 _ _ _ _
   | exact ih1 _ _
   | exact mosaicref03_Depth.mono _ _ _
   | exact LeO.none _
   | refine LeO.ite ?_ ?_
   | refine LeO.bind ?_ (fun _=>?_)
theorem mosaicref03_folds.mono:∀ a0 a1 a2 a3 k,LeO (mosaicref03_folds.f k a0 a1 a2 a3) (mosaicref03_folds.f (k+1) a0 a1 a2 a3):=by
 intro a0 a1 a2 a3 k
 obtain ⟨ih0,ih1⟩:=mosaicref03_folds.mono_l k
 unfold mosaicref03_folds.f
 repeat' first
   | (with_reducible exact ih0 _ _ _ _)
   | (with_reducible exact ih1 _ _)
   | (with_reducible exact mosaicref03_Depth.mono _ _ _)
   | (with_reducible exact LeO.refl _)
   | (with_reducible exact LeO.none _)
   | (with_reducible refine LeO.ite ?_ ?_)
   | (with_reducible refine LeO.bind ?_ (fun _=>?_))
   | exact ih0 _ _ _ _
   | exact ih1 _ _
   | exact mosaicref03_Depth.mono _ _ _
   | exact LeO.none _
   | refine LeO.ite ?_ ?_
   | refine LeO.bind ?_ (fun _=>?_)
set_option maxHeartbeats 8000000 in
set_option maxRecDepth 100000 in
theorem mosaicref03_folds.calls (k:Nat) (a0:Int) (a1:Int) (a2:ByteArray) (A3:Option Addr) (c3:Nat) (l3:List ByteArray) (r:Int) (w:World) (hr3:Kd.C Kd.string w A3 l3.length l3) (hc3:l3.length≤c3) (h:mosaicref03_folds.f k a0 a1 a2 l3=some r) :
  Calls Try.prog 111 #[.int .i64 a0,.int .i64 a1,.string a2,.slice A3 l3.length c3] w fun e w'=>e=.returned (.int .i64 r)∧Drawn0 w w':=by
 have HR3:=Aside0.mk hr3
 have HC3:=Aside0.mk hc3
 clear hr3 hc3
 have H:((mosaicref03_Depth.f k a0 a1).bind fun t615=>(if t615 < 0 then (mosaicref03_folds.j0 k a0 a1 l3 true) else (mosaicref03_folds.j0 k a0 a1 l3 ((a2.size:Int) != 32))))=some r:=h
 clear h
 have HC5:=Aside0.mk H
 clear H
 go_enter Try.func111,Try.ntmps111
 go_upto_region 1 with (fail)
 go_cut [18] (fun v18 wc=>∃ (kq:Nat) (x18_4:Bool),v18=.bool x18_4∧Aside0 (mosaicref03_folds.j0 kq a0 a1 l3 x18_4=some r)∧Aside0 (kq≤k)∧Drawn0 w wc)
 case first =>
  have H:=HC5.out
  clear HC5
  replace H:=Option.bind_eq_some_iff.mp H
  obtain ⟨t615,A60,H⟩:=H
  replace H:(if t615 < 0 then (mosaicref03_folds.j0 k a0 a1 l3 true) else (mosaicref03_folds.j0 k a0 a1 l3 ((a2.size:Int) != 32)))=some r:=H
  have A6:=Aside0.mk A60
  clear A60
  by_cases c7:t615 < 0
  ·
   rw [if_pos c7] at H
   have c7b0:decide (t615 < 0)=true:=decide_eq_true c7
   clear c7
   (first|rw [c7b0]|(simp only [i64_w,i32_w];rw [c7b0])|skip)
   have H':=Aside0.mk H
   clear H
   go_wp2_with (first|((with_reducible refine gate_callee (f:=56) rfl ?_);refine goesL_ (some 12) rfl rfl Try.func56 (by kernel_rfl) rfl #[.int .i64 a0,.int .i64 a1] rfl (by (try simp only [List.map_toArray,List.map_cons,List.map_nil]);first|done|rfl|(simp only [List.length_drop,List.length_take];rfl)) ?_;(with_reducible refine (mosaicref03_Depth.calls k a0 a1 t615 _ A6.out).mono ?_);rintro e w' ⟨rfl,⟨nd,rfl⟩⟩;refine ⟨_,rfl,?_⟩))
   go_meet
   case rel=>exact ⟨_,(true),(by first|rfl|(simp;done)|(simp [*];done)),H',⟨by first|omega|exact Nat.le_refl _⟩,by repeat (first|exact Drawn0.refl _|apply Drawn0.step)⟩
  ·
   rw [if_neg c7] at H
   have c7b0:decide (t615 < 0)=false:=decide_eq_false c7
   clear c7
   (first|rw [c7b0]|(simp only [i64_w,i32_w];rw [c7b0])|skip)
   have H':=Aside0.mk H
   clear H
   go_wp2_with (first|((with_reducible refine gate_callee (f:=56) rfl ?_);refine goesL_ (some 12) rfl rfl Try.func56 (by kernel_rfl) rfl #[.int .i64 a0,.int .i64 a1] rfl (by (try simp only [List.map_toArray,List.map_cons,List.map_nil]);first|done|rfl|(simp only [List.length_drop,List.length_take];rfl)) ?_;(with_reducible refine (mosaicref03_Depth.calls k a0 a1 t615 _ A6.out).mono ?_);rintro e w' ⟨rfl,⟨nd,rfl⟩⟩;refine ⟨_,rfl,?_⟩))
   go_meet
   case rel=>exact ⟨_,(((a2.size:Int) != 32)),(by first|rfl|(simp;done)|(simp [*];done)),H',⟨by first|omega|exact Nat.le_refl _⟩,by repeat (first|exact Drawn0.refl _|apply Drawn0.step)⟩
 case rest =>
  clear HC5
  try clear c1
  try clear p2
  try clear c3
  try clear c5
  try clear c7
  try clear c7b0
  obtain ⟨kq,x18_4,rfl,HA,HJ4,⟨mc4,rfl⟩⟩:=hcut
  cases kq with
  | zero=>exact absurd HA.out (by simp [mosaicref03_folds.j0])
  | succ kj4 =>
   have H:=HA.out
   clear HA
   simp only [mosaicref03_folds.j0] at H
   by_cases c8:x18_4=true
   ·
    subst c8
    have H1:(some 1)=some r:=by rw [if_pos rfl] at H;exact H
    clear H
    have H:=H1
    clear H1
    obtain rfl:=Option.some.inj H
    go_wp2
    go_ret
    exact ⟨by first|rfl|(simp;done)|(simp [*];done),by repeat (first|exact Drawn0.refl _|apply Drawn0.step)⟩
   ·
    replace c8:=Bool.eq_false_iff.mpr c8
    subst c8
    have H1:((mosaicref03_Depth.f kj4 a0 a1).bind fun t616=>(if (l3.length:Int)=t616 then (mosaicref03_folds.l0 kj4 l3 0) else (some 3)))=some r:=by rw [if_neg (show ¬ (false=true) by decide)] at H;exact H
    clear H
    have H:=H1
    clear H1
    replace H:=Option.bind_eq_some_iff.mp H
    obtain ⟨t616,A90,H⟩:=H
    replace H:(if (l3.length:Int)=t616 then (mosaicref03_folds.l0 kj4 l3 0) else (some 3))=some r:=H
    have A9:=Aside0.mk A90
    clear A90
    by_cases c10:(l3.length:Int)=t616
    ·
     rw [if_pos c10] at H
     have c10b0:((l3.length:Int) == t616)=true:=beq_iff_eq.mpr c10
     have c10b1:((l3.length:Int) != t616)=false:=bne_eq_false_iff_eq.mpr c10
     clear c10
     have H':=Aside0.mk H
     clear H
     go_wp2_with (first|((with_reducible refine gate_callee (f:=56) rfl ?_);refine goesL_ (some 23) rfl rfl Try.func56 (by kernel_rfl) rfl #[.int .i64 a0,.int .i64 a1] rfl (by (try simp only [List.map_toArray,List.map_cons,List.map_nil]);first|done|rfl|(simp only [List.length_drop,List.length_take];rfl)) ?_;(with_reducible refine (mosaicref03_Depth.calls kj4 a0 a1 t616 _ A9.out).mono ?_);rintro e w' ⟨rfl,⟨nd,rfl⟩⟩;refine ⟨_,rfl,?_⟩))
     go_loopg [9] kj4 (fun kq v9 w'=>∃ (x9_2:Int),v9=.int .i64 x9_2∧Aside0 (mosaicref03_folds.l0 kq l3 x9_2=some r)∧Aside0 (kq≤kj4)∧Drawn0 w w')
     case atStart=>exact ⟨(0),(by first|rfl|(simp;done)|(simp [*];done)),H',⟨Nat.le_refl _⟩,by repeat (first|exact Drawn0.refl _|apply Drawn0.step)⟩
     case round =>
      clear H'
      try clear c1
      try clear p2
      try clear c3
      try clear c4
      try clear c5
      try clear c7
      try clear c7b0
      try clear c8
      try clear c10
      try clear c10b0
      try clear c10b1
      try clear p2
      obtain ⟨x9_2,rfl,HA,HK2,⟨m2,rfl⟩⟩:=hrel
      cases gk with
      | zero=>exact absurd HA.out (by simp [mosaicref03_folds.l0])
      | succ k2 =>
       have H:=HA.out
       clear HA
       simp only [mosaicref03_folds.l0] at H
       by_cases c11:x9_2 < (l3.length:Int)
       ·
        rw [if_pos c11] at H
        have c11b0:decide (x9_2 < (l3.length:Int))=true:=decide_eq_true c11
        clear c11
        by_cases c12:0≤x9_2
        ·
         rw [if_pos c12] at H
         have c12b0:decide (0≤x9_2)=true:=decide_eq_true c12
         clear c12
         by_cases c13:((rdOf ByteArray.empty l3 x9_2).size:Int)=32
         ·
          rw [if_pos c13] at H
          have c13b0:(((rdOf ByteArray.empty l3 x9_2).size:Int) == 32)=true:=beq_iff_eq.mpr c13
          have c13b1:(((rdOf ByteArray.empty l3 x9_2).size:Int) != 32)=false:=bne_eq_false_iff_eq.mpr c13
          clear c13
          have H':=Aside0.mk H
          clear H
          have p617:0≤(x9_2:Int):=of_decide_eq_true (by first|(with_reducible assumption)|assumption)
          have q617:x9_2 < (l3.length:Int):=of_decide_eq_true (by first|(with_reducible assumption)|assumption)
          obtain ⟨ad617,e617,hx617_0⟩:=Kd.at_string HR3.out x9_2 p617 q617
          cases e617
          replace p617:=eq_true p617
          replace q617:=eq_true q617
          go_wp2
          go_roundg k2
          case measure=>have:=HJ4.out;have:=HK2.out;omega
          case rel=>exact ⟨(wrap64 (x9_2+1)),(by first|rfl|(simp;done)|(simp [*];done)),H',⟨by have:=HJ4.out;have:=HK2.out;omega⟩,by repeat (first|exact Drawn0.refl _|apply Drawn0.step)⟩
         ·
          rw [if_neg c13] at H
          have c13b0:(((rdOf ByteArray.empty l3 x9_2).size:Int) == 32)=false:=beq_eq_false_iff_ne.mpr c13
          have c13b1:(((rdOf ByteArray.empty l3 x9_2).size:Int) != 32)=true:=bne_iff_ne.mpr c13
          obtain rfl:=Option.some.inj H
          have p617:0≤(x9_2:Int):=of_decide_eq_true (by first|(with_reducible assumption)|assumption)
          have q617:x9_2 < (l3.length:Int):=of_decide_eq_true (by first|(with_reducible assumption)|assumption)
          obtain ⟨ad617,e617,hx617_0⟩:=Kd.at_string HR3.out x9_2 p617 q617
          cases e617
          replace p617:=eq_true p617
          replace q617:=eq_true q617
          go_wp2
          go_ret
          exact ⟨by first|rfl|(simp;done)|(simp [*];done),by repeat (first|exact Drawn0.refl _|apply Drawn0.step)⟩
        ·
         rw [if_neg c12] at H
         exact absurd H (by simp)
       ·
        rw [if_neg c11] at H
        have c11b0:decide (x9_2 < (l3.length:Int))=false:=decide_eq_false c11
        clear c11
        obtain rfl:=Option.some.inj H
        go_wp2
        go_ret
        exact ⟨by first|rfl|(simp;done)|(simp [*];done),by repeat (first|exact Drawn0.refl _|apply Drawn0.step)⟩
    ·
     rw [if_neg c10] at H
     have c10b0:((l3.length:Int) == t616)=false:=beq_eq_false_iff_ne.mpr c10
     have c10b1:((l3.length:Int) != t616)=true:=bne_iff_ne.mpr c10
     obtain rfl:=Option.some.inj H
     go_wp2_with (first|((with_reducible refine gate_callee (f:=56) rfl ?_);refine goesL_ (some 23) rfl rfl Try.func56 (by kernel_rfl) rfl #[.int .i64 a0,.int .i64 a1] rfl (by (try simp only [List.map_toArray,List.map_cons,List.map_nil]);first|done|rfl|(simp only [List.length_drop,List.length_take];rfl)) ?_;(with_reducible refine (mosaicref03_Depth.calls kj4 a0 a1 t616 _ A9.out).mono ?_);rintro e w' ⟨rfl,⟨nd,rfl⟩⟩;refine ⟨_,rfl,?_⟩))
     go_ret
     exact ⟨by first|rfl|(simp;done)|(simp [*];done),by repeat (first|exact Drawn0.refl _|apply Drawn0.step)⟩
end Go.Proofs.Ytelcaepenfjloaa.Print
/-! #### Pr112 -/
namespace Go.Proofs.Ytelcaepenfjloaa.Print
open Go.RowKit Go.Proofs.YtelcaepenfjloaaW.PrintWords Go.Proofs.YtelcaepenfjloaaW.PrintLast Go.Proofs.YtelcaepenfjloaaW.PrintMore
attribute [local go_sem] max2_int min2_int max_two min_two max_three min_three max_four min_four
set_option linter.unusedVariables false
set_option linter.unusedSimpArgs false
/-! ### mosaicref03_climb: function 112 -/
def mosaicref03_climb.f:Nat→Int→Int→ByteArray→List ByteArray→Option (ByteArray×List ByteArray)
 | 0,_,_,_,_=>none
 | k+1,a0,a1,a2,l3=>if (l3.length:Int)=0 then (some (a2,([]:List ByteArray))) else ((mosaicref03_half.f k a0).bind fun t619=>(if 0≤(wrap64 ((l3.length:Int) - 1)) then (if (wrap64 ((l3.length:Int) - 1)) < (l3.length:Int) then (if (wrap64 ((l3.length:Int) - 1))≤(l3.length:Int) then (if a1 < t619 then ((mosaicref03_climb.f k t619 a1 a2 (l3.take ((wrap64 ((l3.length:Int) - 1)):Int).toNat)).bind fun bt622=>((mosaicref03_KnotText.f bt622.1 (rdOf ByteArray.empty l3 (wrap64 ((l3.length:Int) - 1)))).bind fun t627=>(if bt622.2.length < 8796093022208 then ((mosaicref01_Sum.f k t627).bind fun t631=>(some (t631,(bt622.2 ++ [t627])))) else (none)))) else ((mosaicref03_climb.f k (wrap64 (a0 - t619)) (wrap64 (a1 - t619)) a2 (l3.take ((wrap64 ((l3.length:Int) - 1)):Int).toNat)).bind fun bt632=>((mosaicref03_KnotText.f (rdOf ByteArray.empty l3 (wrap64 ((l3.length:Int) - 1))) bt632.1).bind fun t637=>(if bt632.2.length < 8796093022208 then ((mosaicref01_Sum.f k t637).bind fun t641=>(some (t641,(bt632.2 ++ [t637])))) else (none))))) else (none)) else (none)) else (none)))
theorem mosaicref03_climb.mono_l:∀ k,(∀ y0 y1 y2 y3,LeO (mosaicref03_climb.f k y0 y1 y2 y3) (mosaicref03_climb.f (k+1) y0 y1 y2 y3))
 | 0=>fun _ _ _ _ r h=>by simp [mosaicref03_climb.f] at h
 | k+1=>by
  have ih0:=mosaicref03_climb.mono_l k
  ·
   intro y0 y1 y2 y3
   unfold mosaicref03_climb.f
   repeat' first
   | (with_reducible exact ih0 _ _ _ _)
   | (with_reducible exact mosaicref01_Sum.mono _ _)
   | (with_reducible exact mosaicref03_half.mono _ _)
   | (with_reducible exact LeO.refl _)
   | (with_reducible exact LeO.none _)
   | (with_reducible refine LeO.ite ?_ ?_)
   | (with_reducible refine LeO.bind ?_ (fun _=>?_))
   | exact ih0 _ _ _ _
   | exact mosaicref01_Sum.mono _ _
   | exact mosaicref03_half.mono _ _
   | exact LeO.none _
   | refine LeO.ite ?_ ?_
   | refine LeO.bind ?_ (fun _=>?_)
theorem mosaicref03_climb.mono:∀ a0 a1 a2 a3 k,LeO (mosaicref03_climb.f k a0 a1 a2 a3) (mosaicref03_climb.f (k+1) a0 a1 a2 a3):=by
 intro a0 a1 a2 a3 k
 have ih0:=mosaicref03_climb.mono_l k
 exact ih0 a0 a1 a2 a3
set_option maxHeartbeats 8000000 in
set_option maxRecDepth 100000 in
theorem mosaicref03_climb.calls (k:Nat):∀ (a0:Int) (a1:Int) (a2:ByteArray) (A3:Option Addr) (c3:Nat) (l3:List ByteArray) (r1:ByteArray) (r2:List ByteArray) (w:World) (hr3:Kd.C Kd.string w A3 l3.length l3) (hc3:l3.length≤c3) (h:mosaicref03_climb.f k a0 a1 a2 l3=some (r1,r2)),
  Calls Try.prog 112 #[.int .i64 a0,.int .i64 a1,.string a2,.slice A3 l3.length c3] w fun e w'=>∃ v1_:Value,e=.returned (.agg #[.string r1,v1_])∧Kd.R Kd.string 9 w' w.heap.size (fun _=>True) v1_ r2∧Below w.heap.size w w':=by
 induction k using Nat.strongRecOn with
 | _ k ih =>
 intro a0 a1 a2 A3 c3 l3 r1 r2 w hr3 hc3 h
 cases k with
 | zero=>exact absurd h (by simp [mosaicref03_climb.f])
 | succ k =>
 simp only [mosaicref03_climb.f] at h
 have hu142:=Try.underlying142
 have HR3:=Aside0.mk hr3
 have HC3:=Aside0.mk hc3
 clear hr3 hc3
 have HB:=Aside0.mk (Below.refl w.heap.size w)
 have H:(if (l3.length:Int)=0 then (some (a2,([]:List ByteArray))) else ((mosaicref03_half.f k a0).bind fun t619=>(if 0≤(wrap64 ((l3.length:Int) - 1)) then (if (wrap64 ((l3.length:Int) - 1)) < (l3.length:Int) then (if (wrap64 ((l3.length:Int) - 1))≤(l3.length:Int) then (if a1 < t619 then ((mosaicref03_climb.f k t619 a1 a2 (l3.take ((wrap64 ((l3.length:Int) - 1)):Int).toNat)).bind fun bt622=>((mosaicref03_KnotText.f bt622.1 (rdOf ByteArray.empty l3 (wrap64 ((l3.length:Int) - 1)))).bind fun t627=>(if bt622.2.length < 8796093022208 then ((mosaicref01_Sum.f k t627).bind fun t631=>(some (t631,(bt622.2 ++ [t627])))) else (none)))) else ((mosaicref03_climb.f k (wrap64 (a0 - t619)) (wrap64 (a1 - t619)) a2 (l3.take ((wrap64 ((l3.length:Int) - 1)):Int).toNat)).bind fun bt632=>((mosaicref03_KnotText.f (rdOf ByteArray.empty l3 (wrap64 ((l3.length:Int) - 1))) bt632.1).bind fun t637=>(if bt632.2.length < 8796093022208 then ((mosaicref01_Sum.f k t637).bind fun t641=>(some (t641,(bt632.2 ++ [t637])))) else (none))))) else (none)) else (none)) else (none))))=some (r1,r2):=h
 clear h
 by_cases c5:(l3.length:Int)=0
 ·
  rw [if_pos c5] at H
  have c5b0:((l3.length:Int) == 0)=true:=beq_iff_eq.mpr c5
  have c5b1:((l3.length:Int) != 0)=false:=bne_eq_false_iff_eq.mpr c5
  clear c5
  simp only [Option.some.injEq,Prod.mk.injEq] at H
  obtain ⟨rfl,rfl⟩:=H
  go_enter Try.func112,Try.ntmps112
  go_wp2_with (first|((with_reducible refine gate_dst (N:=8) rfl ?_);refine box_event ?hg (N:=8) ?hd (cs:=#[.string (⟨#[]⟩:ByteArray),.slice none 0 0]) (t:=142) ?hr ?_;(case hd=>rfl);(case hg=>rfl);(case hr=>first|(go_simp;done)|(go_simp;rfl));intro gb618 hg w6 hbox hb;have n0_:=Aside0.mk (below_step (by repeat (first|(with_reducible first|exact HB.out|apply below_alloc|apply pw_below_drewN|apply below_drew1)|exact HB.out)) hb);have n1_:=Aside0.mk (hbox);have n2_:=Aside0.mk ((by rw [hg];exact (below_size (by repeat (first|(with_reducible first|exact HB.out|apply below_alloc|apply pw_below_drewN|apply below_drew1)|exact HB.out))):w.heap.size≤gb618));have n3_:=Aside0.mk ((by rw [hg];exact (below_size (by repeat (first|(with_reducible first|exact HB.out|apply below_alloc|apply pw_below_drewN|apply below_drew1)|exact HB.out))):w.heap.size≤gb618));clear HB;have HB:=n0_;have BK618:=n1_;have GW618:=n2_;have GE618:=n3_;clear n0_ n1_ n2_ n3_;clear hb hbox hg;have hcz7_0:w6.cell? ⟨gb618,0,none⟩=some (.string (⟨#[]⟩:ByteArray)):=(blk_cell BK618.out 0).trans rfl;have hcz7_1:w6.cell? ⟨gb618,1,none⟩=some (.slice none 0 0):=(blk_cell BK618.out 1).trans rfl;have hfz7_0:=blk_frozen BK618.out 0;have hfz7_1:=blk_frozen BK618.out 1))
  refine bodyPost_ret (results_cell_row rfl _ _ gb618 142 #[.string a2,.slice none 0 0] (0,0) _ rfl (by (with_reducible repeat (first|refine blk_drewN ?_ _|refine blk_drew ?_|refine blk_alloc ?_ _));refine blk_put (cs:=#[.string a2,.slice none 0 0]) ?_ 1 _ rfl;(with_reducible repeat (first|refine blk_drewN ?_ _|refine blk_drew ?_|refine blk_alloc ?_ _));refine blk_put (cs:=#[.string (⟨#[]⟩:ByteArray),.slice none 0 0]) ?_ 0 _ rfl;(with_reducible repeat (first|refine blk_drewN ?_ _|refine blk_drew ?_|refine blk_alloc ?_ _));exact BK618.out) Try.underlying142 rfl (by kernel_rfl)) rfl ?_
  exact ⟨_,by first|rfl|(simp [errW_none,errW_some] <;> rfl)|(simp [*,errW_none,errW_some] <;> rfl),by first|exact Kd.R_nil _ _ _ _ _|exact Kd.N_nil _ _ _ _ _|exact Kd.V_nil _ _ _ _ _|exact Kd.Q_nil _ _ _ _ _|exact Kd.S_nil _ _ _ _ _,by repeat (first|(with_reducible first|exact HB.out|apply below_alloc|apply pw_below_drewN|apply below_drew1|refine below_set ?_ GE618.out)|exact HB.out)⟩
 ·
  rw [if_neg c5] at H
  have c5b0:((l3.length:Int) == 0)=false:=beq_eq_false_iff_ne.mpr c5
  have c5b1:((l3.length:Int) != 0)=true:=bne_iff_ne.mpr c5
  have c5b2:¬ (l3=[]):=fun h_=>c5 (by rw [h_];rfl)
  replace H:=Option.bind_eq_some_iff.mp H
  obtain ⟨t619,A80,H⟩:=H
  replace H:(if 0≤(wrap64 ((l3.length:Int) - 1)) then (if (wrap64 ((l3.length:Int) - 1)) < (l3.length:Int) then (if (wrap64 ((l3.length:Int) - 1))≤(l3.length:Int) then (if a1 < t619 then ((mosaicref03_climb.f k t619 a1 a2 (l3.take ((wrap64 ((l3.length:Int) - 1)):Int).toNat)).bind fun bt622=>((mosaicref03_KnotText.f bt622.1 (rdOf ByteArray.empty l3 (wrap64 ((l3.length:Int) - 1)))).bind fun t627=>(if bt622.2.length < 8796093022208 then ((mosaicref01_Sum.f k t627).bind fun t631=>(some (t631,(bt622.2 ++ [t627])))) else (none)))) else ((mosaicref03_climb.f k (wrap64 (a0 - t619)) (wrap64 (a1 - t619)) a2 (l3.take ((wrap64 ((l3.length:Int) - 1)):Int).toNat)).bind fun bt632=>((mosaicref03_KnotText.f (rdOf ByteArray.empty l3 (wrap64 ((l3.length:Int) - 1))) bt632.1).bind fun t637=>(if bt632.2.length < 8796093022208 then ((mosaicref01_Sum.f k t637).bind fun t641=>(some (t641,(bt632.2 ++ [t637])))) else (none))))) else (none)) else (none)) else (none))=some (r1,r2):=H
  have A8:=Aside0.mk A80
  clear A80
  obtain ⟨ji9,hji9⟩:∃ j_:Int,(wrap64 ((l3.length:Int) - 1))=j_:=⟨_,rfl⟩
  replace H:(if 0≤(ji9) then (if (ji9) < (l3.length:Int) then (if (ji9)≤(l3.length:Int) then (if a1 < t619 then ((mosaicref03_climb.f k t619 a1 a2 (l3.take ((ji9):Int).toNat)).bind fun bt622=>((mosaicref03_KnotText.f bt622.1 (rdOf ByteArray.empty l3 (ji9))).bind fun t627=>(if bt622.2.length < 8796093022208 then ((mosaicref01_Sum.f k t627).bind fun t631=>(some (t631,(bt622.2 ++ [t627])))) else (none)))) else ((mosaicref03_climb.f k (wrap64 (a0 - t619)) (wrap64 (a1 - t619)) a2 (l3.take ((ji9):Int).toNat)).bind fun bt632=>((mosaicref03_KnotText.f (rdOf ByteArray.empty l3 (ji9)) bt632.1).bind fun t637=>(if bt632.2.length < 8796093022208 then ((mosaicref01_Sum.f k t637).bind fun t641=>(some (t641,(bt632.2 ++ [t637])))) else (none))))) else (none)) else (none)) else (none))=some (r1,r2):=by first|(rw [hji9] at H;exact H)|(simp only [hji9] at H ⊢;exact H)
  (try rw [hji9] at A8)
  have hji9w:(IntKind.i64.wrap ((l3.length:Int) - 1))=ji9:=(i64_w _).trans hji9
  by_cases c10:0≤(ji9)
  ·
   rw [if_pos c10] at H
   have c10b0:decide (0≤(ji9))=true:=decide_eq_true c10
   clear c10
   by_cases c11:(ji9) < (l3.length:Int)
   ·
    rw [if_pos c11] at H
    have c11b0:decide ((ji9) < (l3.length:Int))=true:=decide_eq_true c11
    clear c11
    have c12b0:=eq_true (of_decide_eq_true (by first|(with_reducible assumption)|assumption):0≤(ji9))
    by_cases c13:(ji9)≤(l3.length:Int)
    ·
     rw [if_pos c13] at H
     have c13b0:=eq_true c13
     have c13b1:decide ((ji9)≤(l3.length:Int))=true:=decide_eq_true c13
     clear c13
     by_cases c14:a1 < t619
     ·
      rw [if_pos c14] at H
      have c14b0:decide (a1 < t619)=true:=decide_eq_true c14
      clear c14
      replace H:=Option.bind_eq_some_iff.mp H
      obtain ⟨⟨t622,t623⟩,A150,H⟩:=H
      replace H:((mosaicref03_KnotText.f t622 (rdOf ByteArray.empty l3 (ji9))).bind fun t627=>(if t623.length < 8796093022208 then ((mosaicref01_Sum.f k t627).bind fun t631=>(some (t631,(t623 ++ [t627])))) else (none)))=some (r1,r2):=H
      have A15:=Aside0.mk A150
      clear A150
      replace H:=Option.bind_eq_some_iff.mp H
      obtain ⟨t627,A160,H⟩:=H
      replace H:(if t623.length < 8796093022208 then ((mosaicref01_Sum.f k t627).bind fun t631=>(some (t631,(t623 ++ [t627])))) else (none))=some (r1,r2):=H
      have A16:=Aside0.mk A160
      clear A160
      by_cases c17:t623.length < 8796093022208
      ·
       rw [if_pos c17] at H
       have LMc17:=Aside0.mk c17
       clear c17
       obtain ⟨y628,hy628⟩:∃ y_:List ByteArray,y_=(t623 ++ [t627]):=⟨_,rfl⟩
       replace H:((mosaicref01_Sum.f k t627).bind fun t631=>(some (t631,y628)))=some (r1,r2):=by first|(rw [hy628];with_reducible exact H)|(have H2_:=(Option.bind_some _ _).symm.trans H;rw [hy628];with_reducible exact H2_)|(have H2_:=(Option.bind_some _ _).symm.trans H;with_reducible exact H2_)|with_reducible exact H|(rw [hy628];exact H)|exact H
       have Ny628:=Aside0.mk hy628
       clear hy628
       replace H:=Option.bind_eq_some_iff.mp H
       obtain ⟨t631,A180,H⟩:=H
       replace H:(some (t631,y628))=some (r1,r2):=H
       have A18:=Aside0.mk A180
       clear A180
       simp only [Option.some.injEq,Prod.mk.injEq] at H
       obtain ⟨rfl,rfl⟩:=H
       go_enter Try.func112,Try.ntmps112
       go_wp2_with (first|((with_reducible refine gate_dst (N:=8) rfl ?_);refine box_event ?hg (N:=8) ?hd (cs:=#[.string (⟨#[]⟩:ByteArray),.slice none 0 0]) (t:=142) ?hr ?_;(case hd=>rfl);(case hg=>rfl);(case hr=>first|(go_simp;done)|(go_simp;rfl));intro gb618 hg w19 hbox hb;have n0_:=Aside0.mk (below_step (by repeat (first|(with_reducible first|exact HB.out|apply below_alloc|apply pw_below_drewN|apply below_drew1)|exact HB.out)) hb);have n1_:=Aside0.mk (hbox);have n2_:=Aside0.mk ((by rw [hg];exact (below_size (by repeat (first|(with_reducible first|exact HB.out|apply below_alloc|apply pw_below_drewN|apply below_drew1)|exact HB.out))):w.heap.size≤gb618));have n3_:=Aside0.mk ((by rw [hg];exact (below_size (by repeat (first|(with_reducible first|exact HB.out|apply below_alloc|apply pw_below_drewN|apply below_drew1)|exact HB.out))):w.heap.size≤gb618));clear HB;have HB:=n0_;have BK618:=n1_;have GW618:=n2_;have GE618:=n3_;clear n0_ n1_ n2_ n3_;clear hb hbox hg)|((with_reducible refine gate_callee (f:=99) rfl ?_);refine goesL_ (some 22) rfl rfl Try.func99 (by kernel_rfl) rfl #[.int .i64 a0] rfl (by (try simp only [List.map_toArray,List.map_cons,List.map_nil]);first|done|rfl|(simp only [List.length_drop,List.length_take];rfl)) ?_;(with_reducible refine (mosaicref03_half.calls k a0 t619 _ A8.out).mono ?_);rintro e w' ⟨rfl,⟨nd,rfl⟩⟩;refine ⟨_,rfl,?_⟩;(try (rw [drewN_self w19];generalize hq_:World.drewN w19 _=w19;have n0_:Aside0 (w19.heap[gb618]?=some (.cells #[.string (⟨#[]⟩:ByteArray),.slice none 0 0] 142 (0,0))):=⟨by rw [← hq_];exact (by (with_reducible repeat (first|refine blk_drewN ?_ _|refine blk_drew ?_|refine blk_alloc ?_ _));exact BK618.out)⟩;have n1_:Aside0 (Below w.heap.size w w19):=⟨by rw [← hq_];exact (by repeat (first|(with_reducible first|exact HB.out|apply below_alloc|apply pw_below_drewN|apply below_drew1|refine below_set ?_ GE618.out)|exact HB.out))⟩;clear BK618 HB hq_;have BK618:=n0_;have HB:=n1_;clear n0_ n1_));have p620:0≤((ji9):Int):=of_decide_eq_true (by first|(with_reducible assumption)|assumption);have q620:(ji9) < (l3.length:Int):=of_decide_eq_true (by first|(with_reducible assumption)|assumption);obtain ⟨ad620,e620,hx620_0⟩:=Kd.at_string HR3.out (ji9) p620 q620;cases e620;replace hx620_0:=(HB.out.cell (World.block_lt_of_cell? w _ hx620_0)).trans hx620_0;replace p620:=eq_true p620;replace q620:=eq_true q620;obtain ⟨i020,hi020,_,hsz20,_⟩:=info_parts info9;obtain ⟨hcut20,hA20,hC20⟩:=print_take_of (P:=Try.prog) Value.string (⟨#[]⟩:ByteArray) 39 9 .i64 Try.underlying39 hi020 hsz20 (some ad620) c3 l3 (ji9) (of_decide_eq_true (by first|(with_reducible assumption)|assumption)) (of_decide_eq_true (by first|(with_reducible assumption)|assumption)) HC3.out;have HR621:=Aside0.mk (Kd.C_of_reads (h1:=fun _=>rfl) (hA20 _ (Kd.reads_of_C HR3.out)));have HC621:=Aside0.mk hC20;clear hA20 hC20 hi020 hsz20)|((with_reducible refine gate_callee (f:=112) rfl ?_);refine goesL_ (some 41) rfl rfl Try.func112 (by kernel_rfl) rfl #[.int .i64 t619,.int .i64 a1,.string a2,.slice (some ad620) (l3.take ((ji9):Int).toNat).length c3] rfl (by (try simp only [List.map_toArray,List.map_cons,List.map_nil]);first|done|(rw [show (l3.take ((ji9):Int).toNat).length=(ji9).toNat from (by rw [List.length_take];have h_:((ji9):Int)≤(l3.length:Int):=of_decide_eq_true (by first|(with_reducible assumption)|assumption);omega)] <;> rfl)|(simp only [hji9];rfl)|rfl|(simp only [List.length_drop,List.length_take];rfl)) ?_;(with_reducible refine (ih k (by omega) t619 a1 a2 _ _ (l3.take ((ji9):Int).toNat) t622 t623 _ ?side1 ?side2 A15.out).mono ?_);(case side1=>repeat (first|exact (Kd.C_below HR621.out HB.out)|(with_reducible refine Kd.C_alloc ?_ _)|(with_reducible refine Kd.C_drewN ?_ _)|(with_reducible refine Kd.C_drew ?_)));(case side2=>exact HC621.out);rintro e w21 ⟨v624,rfl,ho0,hb⟩;refine ⟨_,rfl,?_⟩;have n0_:=Aside0.mk (Kd.R_lower ho0 (below_size (by repeat (first|(with_reducible first|exact HB.out|apply below_alloc|apply pw_below_drewN|apply below_drew1|refine below_set ?_ GE618.out)|exact HB.out))));have n1_:=Aside0.mk (blk_below (g:=gb618) (o:=.cells #[.string (⟨#[]⟩:ByteArray),.slice none 0 0] 142 (0,0)) (by (with_reducible repeat (first|refine blk_drewN ?_ _|refine blk_drew ?_|refine blk_alloc ?_ _));exact BK618.out) hb);have n2_:=Aside0.mk (below_step (by repeat (first|(with_reducible first|exact HB.out|apply below_alloc|apply pw_below_drewN|apply below_drew1|refine below_set ?_ GE618.out)|exact HB.out)) hb);clear BK618;clear HB;have HO625:=n0_;have BK618:=n1_;have HB:=n2_;clear n0_ n1_ n2_;(try clear hb);(try clear hb2);(try clear hk);(try clear hi);(try clear ho0))|((with_reducible refine gate_dst (N:=12) rfl ?_);refine box_event ?hg (N:=12) ?hd (cs:=#[.string (⟨#[]⟩:ByteArray),.slice none 0 0]) (t:=142) ?hr ?_;(case hd=>rfl);(case hg=>rfl);(case hr=>first|(go_simp;done)|(go_simp;rfl));intro gb626 hg w22 hbox hb;have n0_:=Aside0.mk (Kd.R_below (by (with_reducible repeat (first|apply Kd.R_alloc|apply Kd.R_drewN|apply Kd.R_drew));exact HO625.out) hb);have n1_:=Aside0.mk (blk_below (g:=gb618) (o:=.cells #[.string (⟨#[]⟩:ByteArray),.slice none 0 0] 142 (0,0)) (by (with_reducible repeat (first|refine blk_drewN ?_ _|refine blk_drew ?_|refine blk_alloc ?_ _));exact BK618.out) hb);have n2_:=Aside0.mk (below_step (by repeat (first|(with_reducible first|exact HB.out|apply below_alloc|apply pw_below_drewN|apply below_drew1|refine below_set ?_ GE618.out)|exact HB.out)) hb);have n3_:=Aside0.mk (hbox);have n4_:=Aside0.mk ((by rw [hg];exact (below_size (by repeat (first|(with_reducible first|exact HB.out|apply below_alloc|apply pw_below_drewN|apply below_drew1|refine below_set ?_ GE618.out)|exact HB.out))):w.heap.size≤gb626));have n5_:=Aside0.mk ((by rw [hg];exact (below_size (by repeat (first|(with_reducible first|exact HB.out|apply below_alloc|apply pw_below_drewN|apply below_drew1|refine below_set ?_ GE618.out)|exact HB.out))):w.heap.size≤gb626));have n6_:=Aside0.mk ((by rw [hg];exact Nat.ne_of_lt (blk_lt (g:=gb618) (o:=.cells #[.string (⟨#[]⟩:ByteArray),.slice none 0 0] 142 (0,0)) (by (with_reducible repeat (first|refine blk_drewN ?_ _|refine blk_drew ?_|refine blk_alloc ?_ _));exact BK618.out)):gb618≠gb626));have n7_:=Aside0.mk ((by rw [hg];exact Nat.ne_of_gt (blk_lt (g:=gb618) (o:=.cells #[.string (⟨#[]⟩:ByteArray),.slice none 0 0] 142 (0,0)) (by (with_reducible repeat (first|refine blk_drewN ?_ _|refine blk_drew ?_|refine blk_alloc ?_ _));exact BK618.out)):gb626≠gb618));clear HO625;clear BK618;clear HB;have HO625:=n0_;have BK618:=n1_;have HB:=n2_;have BK626:=n3_;have GW626:=n4_;have GE626:=n5_;have NB618_626:=n6_;have NB626_618:=n7_;clear n0_ n1_ n2_ n3_ n4_ n5_ n6_ n7_;clear hb hbox hg;have hnb23:=NB626_618.out;have hnc23:=NB618_626.out;have hcz24_0:w22.cell? ⟨gb626,0,none⟩=some (.string (⟨#[]⟩:ByteArray)):=(blk_cell BK626.out 0).trans rfl;have hcz24_1:w22.cell? ⟨gb626,1,none⟩=some (.slice none 0 0):=(blk_cell BK626.out 1).trans rfl;have hfz24_0:=blk_frozen BK626.out 0;have hfz24_1:=blk_frozen BK626.out 1;obtain ⟨Ao25,co25,eo25⟩:=Kd.R_slice HO625.out;subst eo25)|((with_reducible refine gate_callee (f:=51) rfl ?_);refine goesL_ (some 45) rfl rfl Try.func51 (by kernel_rfl) rfl #[.string t622,.string (rdOf ByteArray.empty l3 (ji9))] rfl (by (try simp only [List.map_toArray,List.map_cons,List.map_nil]);first|done|(simp only [hji9];rfl)|rfl|(simp only [List.length_drop,List.length_take];rfl)) ?_;(with_reducible refine (mosaicref03_KnotText.calls t622 (rdOf ByteArray.empty l3 (ji9)) t627 _ A16.out).mono ?_);rintro e w' ⟨rfl,⟨nd,rfl⟩⟩;refine ⟨_,rfl,?_⟩)|((with_reducible refine gate_builtin (b:=.append) (xs:=#[.tmp 47,.tmp 49]) rfl ?_);at_builtin;refine Kd.R_append Kd.string (w0:=w) w.heap.size rfl (.tmp 47) (.tmp 49) 39 9 (.string ⟨#[]⟩) 16 rfl Try.underlying39 info9 rfl (by decide) (by omega) (.slice Ao25 t623.length co25) t623 t627 [.string t627] (fun _=>True) (fun _=>False) rfl (by first|(go_simp;done)|(go_simp;rfl)) ?aP (fun _ hk=>hk.elim) ?aF ?aO ?aB ?aS ?aL ?_;(case aP=>exact rfl);(case aB=>exact (by repeat (first|(with_reducible first|exact HB.out|apply below_alloc|apply pw_below_drewN|apply below_drew1|refine below_set ?_ GE618.out|refine below_set ?_ GE626.out)|exact HB.out)));(case aF=>exact (fun _ _=>trivial));(case aO=>exact (by (with_reducible repeat (first|apply Kd.R_alloc|apply Kd.R_drewN|apply Kd.R_drew));exact Kd.R_mono (Kd.R_far (p:=⟨gb626,1,none⟩) (Kd.R_far (p:=⟨gb626,0,none⟩) (Kd.R_types HO625.out BK626.out (by decide)) (fun _ hk=>hk.2) (.string t622)) (fun _ hk=>hk.2) (.slice Ao25 t623.length co25)) (fun _ hk=>trivial)));(case aS=>exact (below_size (by repeat (first|(with_reducible first|exact HB.out|apply below_alloc|apply pw_below_drewN|apply below_drew1|refine below_set ?_ GE618.out|refine below_set ?_ GE626.out)|exact HB.out))));(case aL=>have:=LMc17.out;omega);intro v629 w26 ho hb hg hat;rw [← Ny628.out] at ho;have n0_:=Aside0.mk (blk_grown (g:=gb618) (o:=.cells #[.string (⟨#[]⟩:ByteArray),.slice none 0 0] 142 (0,0)) (by (with_reducible repeat (first|refine blk_drewN ?_ _|refine blk_drew ?_|refine blk_alloc ?_ _));refine blk_far ?_ NB618_626.out _;(with_reducible repeat (first|refine blk_drewN ?_ _|refine blk_drew ?_|refine blk_alloc ?_ _));refine blk_far ?_ NB618_626.out _;(with_reducible repeat (first|refine blk_drewN ?_ _|refine blk_drew ?_|refine blk_alloc ?_ _));exact BK618.out) hg (Kd.R_ne HO625.out BK618.out (by decide)));have n1_:=Aside0.mk (blk_grown (g:=gb626) (o:=.cells #[.string t622,.slice Ao25 t623.length co25] 142 (0,0)) (by (with_reducible repeat (first|refine blk_drewN ?_ _|refine blk_drew ?_|refine blk_alloc ?_ _));refine blk_put (cs:=#[.string t622,.slice none 0 0]) ?_ 1 _ rfl;(with_reducible repeat (first|refine blk_drewN ?_ _|refine blk_drew ?_|refine blk_alloc ?_ _));refine blk_put (cs:=#[.string (⟨#[]⟩:ByteArray),.slice none 0 0]) ?_ 0 _ rfl;(with_reducible repeat (first|refine blk_drewN ?_ _|refine blk_drew ?_|refine blk_alloc ?_ _));exact BK626.out) hg (Kd.R_ne HO625.out BK626.out (by decide)));have n2_:=Aside0.mk (hb);have n3_:=Aside0.mk (ho);clear BK618;clear BK626;clear HB;clear HO625;have BK618:=n0_;have BK626:=n1_;have HB:=n2_;have HO630:=n3_;clear n0_ n1_ n2_ n3_;clear ho hb hg hat;obtain ⟨Ao27,co27,eo27⟩:=Kd.R_slice HO630.out;subst eo27;have hcz28_0:w26.cell? ⟨gb626,0,none⟩=some (.string t622):=(blk_cell BK626.out 0).trans rfl;have hcz28_1:w26.cell? ⟨gb626,1,none⟩=some (.slice Ao25 t623.length co25):=(blk_cell BK626.out 1).trans rfl;have hfz28_0:=blk_frozen BK626.out 0;have hfz28_1:=blk_frozen BK626.out 1)|((with_reducible refine gate_callee (f:=27) rfl ?_);refine goesL_ (some 53) rfl rfl Try.func27 (by kernel_rfl) rfl #[.string t627] rfl (by (try simp only [List.map_toArray,List.map_cons,List.map_nil]);first|done|rfl|(simp only [List.length_drop,List.length_take];rfl)) ?_;(with_reducible refine (mosaicref01_Sum.calls k t627 t631 _ A18.out).mono ?_);rintro e w29 ⟨rfl,hb⟩;refine ⟨_,rfl,?_⟩;have n0_:=Aside0.mk (Kd.R_below (by (with_reducible repeat (first|apply Kd.R_alloc|apply Kd.R_drewN|apply Kd.R_drew));exact (Kd.R_mono (Kd.R_far (p:=⟨gb626,1,none⟩) (Kd.R_types HO630.out BK626.out (by decide)) (fun _ hk=>hk.2) (.slice Ao27 y628.length co27)) (fun _ h_=>h_.1))) hb);have n1_:=Aside0.mk (blk_below (g:=gb618) (o:=.cells #[.string (⟨#[]⟩:ByteArray),.slice none 0 0] 142 (0,0)) (by (with_reducible repeat (first|refine blk_drewN ?_ _|refine blk_drew ?_|refine blk_alloc ?_ _));refine blk_far ?_ NB618_626.out _;(with_reducible repeat (first|refine blk_drewN ?_ _|refine blk_drew ?_|refine blk_alloc ?_ _));exact BK618.out) hb);have n2_:=Aside0.mk (blk_below (g:=gb626) (o:=.cells #[.string t622,.slice Ao27 y628.length co27] 142 (0,0)) (by (with_reducible repeat (first|refine blk_drewN ?_ _|refine blk_drew ?_|refine blk_alloc ?_ _));refine blk_put (cs:=#[.string t622,.slice Ao25 t623.length co25]) ?_ 1 _ rfl;(with_reducible repeat (first|refine blk_drewN ?_ _|refine blk_drew ?_|refine blk_alloc ?_ _));exact BK626.out) hb);have n3_:=Aside0.mk (below_step (by repeat (first|(with_reducible first|exact HB.out|apply below_alloc|apply pw_below_drewN|apply below_drew1|refine below_set ?_ GE618.out|refine below_set ?_ GE626.out)|exact HB.out)) hb);clear HO630;clear BK618;clear BK626;clear HB;have HO630:=n0_;have BK618:=n1_;have BK626:=n2_;have HB:=n3_;clear n0_ n1_ n2_ n3_;(try clear hb);(try clear hb2);(try clear hk);(try clear hi);have hcz30_0:w29.cell? ⟨gb626,0,none⟩=some (.string t622):=(blk_cell BK626.out 0).trans rfl;have hcz30_1:w29.cell? ⟨gb626,1,none⟩=some (.slice Ao27 y628.length co27):=(blk_cell BK626.out 1).trans rfl;have hfz30_0:=blk_frozen BK626.out 0;have hfz30_1:=blk_frozen BK626.out 1;have hcz31_0:w29.cell? ⟨gb618,0,none⟩=some (.string (⟨#[]⟩:ByteArray)):=(blk_cell BK618.out 0).trans rfl;have hcz31_1:w29.cell? ⟨gb618,1,none⟩=some (.slice none 0 0):=(blk_cell BK618.out 1).trans rfl;have hfz31_0:=blk_frozen BK618.out 0;have hfz31_1:=blk_frozen BK618.out 1))
       refine bodyPost_ret (results_cell_row rfl _ _ gb618 142 #[.string t631,.slice Ao27 y628.length co27] (0,0) _ rfl (by (with_reducible repeat (first|refine blk_drewN ?_ _|refine blk_drew ?_|refine blk_alloc ?_ _));refine blk_put (cs:=#[.string t631,.slice none 0 0]) ?_ 1 _ rfl;(with_reducible repeat (first|refine blk_drewN ?_ _|refine blk_drew ?_|refine blk_alloc ?_ _));refine blk_put (cs:=#[.string (⟨#[]⟩:ByteArray),.slice none 0 0]) ?_ 0 _ rfl;(with_reducible repeat (first|refine blk_drewN ?_ _|refine blk_drew ?_|refine blk_alloc ?_ _));refine blk_far ?_ NB618_626.out _;(with_reducible repeat (first|refine blk_drewN ?_ _|refine blk_drew ?_|refine blk_alloc ?_ _));exact BK618.out) Try.underlying142 rfl (by kernel_rfl)) rfl ?_
       exact ⟨_,by first|rfl|(simp [errW_none,errW_some] <;> rfl)|(simp only [← hji9];first|rfl|(simp [errW_none,errW_some] <;> rfl))|(simp [*,errW_none,errW_some] <;> rfl),by (with_reducible repeat (first|apply Kd.R_alloc|apply Kd.R_drewN|apply Kd.R_drew));exact Kd.R_mono (Kd.R_far (p:=⟨gb618,1,none⟩) (Kd.R_far (p:=⟨gb618,0,none⟩) (Kd.R_far (p:=⟨gb626,0,none⟩) (Kd.R_types (Kd.R_types HO630.out BK626.out (by decide)) BK618.out (by decide)) (fun _ hk=>hk.1.2) (.string t631)) (fun _ hk=>hk.2) (.string t631)) (fun _ hk=>hk.2) (.slice Ao27 y628.length co27)) (fun _ hk=>trivial),by repeat (first|(with_reducible first|exact HB.out|apply below_alloc|apply pw_below_drewN|apply below_drew1|refine below_set ?_ GE618.out|refine below_set ?_ GE626.out)|exact HB.out)⟩
      ·
       rw [if_neg c17] at H
       exact absurd H (by simp)
     ·
      rw [if_neg c14] at H
      have c14b0:decide (a1 < t619)=false:=decide_eq_false c14
      clear c14
      replace H:=Option.bind_eq_some_iff.mp H
      obtain ⟨⟨t632,t633⟩,A320,H⟩:=H
      replace H:((mosaicref03_KnotText.f (rdOf ByteArray.empty l3 (ji9)) t632).bind fun t637=>(if t633.length < 8796093022208 then ((mosaicref01_Sum.f k t637).bind fun t641=>(some (t641,(t633 ++ [t637])))) else (none)))=some (r1,r2):=H
      have A32:=Aside0.mk A320
      clear A320
      replace H:=Option.bind_eq_some_iff.mp H
      obtain ⟨t637,A330,H⟩:=H
      replace H:(if t633.length < 8796093022208 then ((mosaicref01_Sum.f k t637).bind fun t641=>(some (t641,(t633 ++ [t637])))) else (none))=some (r1,r2):=H
      have A33:=Aside0.mk A330
      clear A330
      by_cases c34:t633.length < 8796093022208
      ·
       rw [if_pos c34] at H
       have LMc34:=Aside0.mk c34
       clear c34
       obtain ⟨y638,hy638⟩:∃ y_:List ByteArray,y_=(t633 ++ [t637]):=⟨_,rfl⟩
       replace H:((mosaicref01_Sum.f k t637).bind fun t641=>(some (t641,y638)))=some (r1,r2):=by first|(rw [hy638];with_reducible exact H)|(have H2_:=(Option.bind_some _ _).symm.trans H;rw [hy638];with_reducible exact H2_)|(have H2_:=(Option.bind_some _ _).symm.trans H;with_reducible exact H2_)|with_reducible exact H|(rw [hy638];exact H)|exact H
       have Ny638:=Aside0.mk hy638
       clear hy638
       replace H:=Option.bind_eq_some_iff.mp H
       obtain ⟨t641,A350,H⟩:=H
       replace H:(some (t641,y638))=some (r1,r2):=H
       have A35:=Aside0.mk A350
       clear A350
       simp only [Option.some.injEq,Prod.mk.injEq] at H
       obtain ⟨rfl,rfl⟩:=H
       go_enter Try.func112,Try.ntmps112
       go_wp2_with (first|((with_reducible refine gate_dst (N:=8) rfl ?_);refine box_event ?hg (N:=8) ?hd (cs:=#[.string (⟨#[]⟩:ByteArray),.slice none 0 0]) (t:=142) ?hr ?_;(case hd=>rfl);(case hg=>rfl);(case hr=>first|(go_simp;done)|(go_simp;rfl));intro gb618 hg w36 hbox hb;have n0_:=Aside0.mk (below_step (by repeat (first|(with_reducible first|exact HB.out|apply below_alloc|apply pw_below_drewN|apply below_drew1)|exact HB.out)) hb);have n1_:=Aside0.mk (hbox);have n2_:=Aside0.mk ((by rw [hg];exact (below_size (by repeat (first|(with_reducible first|exact HB.out|apply below_alloc|apply pw_below_drewN|apply below_drew1)|exact HB.out))):w.heap.size≤gb618));have n3_:=Aside0.mk ((by rw [hg];exact (below_size (by repeat (first|(with_reducible first|exact HB.out|apply below_alloc|apply pw_below_drewN|apply below_drew1)|exact HB.out))):w.heap.size≤gb618));clear HB;have HB:=n0_;have BK618:=n1_;have GW618:=n2_;have GE618:=n3_;clear n0_ n1_ n2_ n3_;clear hb hbox hg)|((with_reducible refine gate_callee (f:=99) rfl ?_);refine goesL_ (some 22) rfl rfl Try.func99 (by kernel_rfl) rfl #[.int .i64 a0] rfl (by (try simp only [List.map_toArray,List.map_cons,List.map_nil]);first|done|rfl|(simp only [List.length_drop,List.length_take];rfl)) ?_;(with_reducible refine (mosaicref03_half.calls k a0 t619 _ A8.out).mono ?_);rintro e w' ⟨rfl,⟨nd,rfl⟩⟩;refine ⟨_,rfl,?_⟩;(try (rw [drewN_self w36];generalize hq_:World.drewN w36 _=w36;have n0_:Aside0 (w36.heap[gb618]?=some (.cells #[.string (⟨#[]⟩:ByteArray),.slice none 0 0] 142 (0,0))):=⟨by rw [← hq_];exact (by (with_reducible repeat (first|refine blk_drewN ?_ _|refine blk_drew ?_|refine blk_alloc ?_ _));exact BK618.out)⟩;have n1_:Aside0 (Below w.heap.size w w36):=⟨by rw [← hq_];exact (by repeat (first|(with_reducible first|exact HB.out|apply below_alloc|apply pw_below_drewN|apply below_drew1|refine below_set ?_ GE618.out)|exact HB.out))⟩;clear BK618 HB hq_;have BK618:=n0_;have HB:=n1_;clear n0_ n1_));have p620:0≤((ji9):Int):=of_decide_eq_true (by first|(with_reducible assumption)|assumption);have q620:(ji9) < (l3.length:Int):=of_decide_eq_true (by first|(with_reducible assumption)|assumption);obtain ⟨ad620,e620,hx620_0⟩:=Kd.at_string HR3.out (ji9) p620 q620;cases e620;replace hx620_0:=(HB.out.cell (World.block_lt_of_cell? w _ hx620_0)).trans hx620_0;replace p620:=eq_true p620;replace q620:=eq_true q620;obtain ⟨i037,hi037,_,hsz37,_⟩:=info_parts info9;obtain ⟨hcut37,hA37,hC37⟩:=print_take_of (P:=Try.prog) Value.string (⟨#[]⟩:ByteArray) 39 9 .i64 Try.underlying39 hi037 hsz37 (some ad620) c3 l3 (ji9) (of_decide_eq_true (by first|(with_reducible assumption)|assumption)) (of_decide_eq_true (by first|(with_reducible assumption)|assumption)) HC3.out;have HR621:=Aside0.mk (Kd.C_of_reads (h1:=fun _=>rfl) (hA37 _ (Kd.reads_of_C HR3.out)));have HC621:=Aside0.mk hC37;clear hA37 hC37 hi037 hsz37)|((with_reducible refine gate_callee (f:=112) rfl ?_);refine goesL_ (some 64) rfl rfl Try.func112 (by kernel_rfl) rfl #[.int .i64 (wrap64 (a0 - t619)),.int .i64 (wrap64 (a1 - t619)),.string a2,.slice (some ad620) (l3.take ((ji9):Int).toNat).length c3] rfl (by (try simp only [List.map_toArray,List.map_cons,List.map_nil]);first|done|(rw [show (l3.take ((ji9):Int).toNat).length=(ji9).toNat from (by rw [List.length_take];have h_:((ji9):Int)≤(l3.length:Int):=of_decide_eq_true (by first|(with_reducible assumption)|assumption);omega)] <;> rfl)|(simp only [hji9];rfl)|rfl|(simp only [List.length_drop,List.length_take];rfl)) ?_;(with_reducible refine (ih k (by omega) (wrap64 (a0 - t619)) (wrap64 (a1 - t619)) a2 _ _ (l3.take ((ji9):Int).toNat) t632 t633 _ ?side1 ?side2 A32.out).mono ?_);(case side1=>repeat (first|exact (Kd.C_below HR621.out HB.out)|(with_reducible refine Kd.C_alloc ?_ _)|(with_reducible refine Kd.C_drewN ?_ _)|(with_reducible refine Kd.C_drew ?_)));(case side2=>exact HC621.out);rintro e w38 ⟨v634,rfl,ho0,hb⟩;refine ⟨_,rfl,?_⟩;have n0_:=Aside0.mk (Kd.R_lower ho0 (below_size (by repeat (first|(with_reducible first|exact HB.out|apply below_alloc|apply pw_below_drewN|apply below_drew1|refine below_set ?_ GE618.out)|exact HB.out))));have n1_:=Aside0.mk (blk_below (g:=gb618) (o:=.cells #[.string (⟨#[]⟩:ByteArray),.slice none 0 0] 142 (0,0)) (by (with_reducible repeat (first|refine blk_drewN ?_ _|refine blk_drew ?_|refine blk_alloc ?_ _));exact BK618.out) hb);have n2_:=Aside0.mk (below_step (by repeat (first|(with_reducible first|exact HB.out|apply below_alloc|apply pw_below_drewN|apply below_drew1|refine below_set ?_ GE618.out)|exact HB.out)) hb);clear BK618;clear HB;have HO635:=n0_;have BK618:=n1_;have HB:=n2_;clear n0_ n1_ n2_;(try clear hb);(try clear hb2);(try clear hk);(try clear hi);(try clear ho0))|((with_reducible refine gate_dst (N:=14) rfl ?_);refine box_event ?hg (N:=14) ?hd (cs:=#[.string (⟨#[]⟩:ByteArray),.slice none 0 0]) (t:=142) ?hr ?_;(case hd=>rfl);(case hg=>rfl);(case hr=>first|(go_simp;done)|(go_simp;rfl));intro gb636 hg w39 hbox hb;have n0_:=Aside0.mk (Kd.R_below (by (with_reducible repeat (first|apply Kd.R_alloc|apply Kd.R_drewN|apply Kd.R_drew));exact HO635.out) hb);have n1_:=Aside0.mk (blk_below (g:=gb618) (o:=.cells #[.string (⟨#[]⟩:ByteArray),.slice none 0 0] 142 (0,0)) (by (with_reducible repeat (first|refine blk_drewN ?_ _|refine blk_drew ?_|refine blk_alloc ?_ _));exact BK618.out) hb);have n2_:=Aside0.mk (below_step (by repeat (first|(with_reducible first|exact HB.out|apply below_alloc|apply pw_below_drewN|apply below_drew1|refine below_set ?_ GE618.out)|exact HB.out)) hb);have n3_:=Aside0.mk (hbox);have n4_:=Aside0.mk ((by rw [hg];exact (below_size (by repeat (first|(with_reducible first|exact HB.out|apply below_alloc|apply pw_below_drewN|apply below_drew1|refine below_set ?_ GE618.out)|exact HB.out))):w.heap.size≤gb636));have n5_:=Aside0.mk ((by rw [hg];exact (below_size (by repeat (first|(with_reducible first|exact HB.out|apply below_alloc|apply pw_below_drewN|apply below_drew1|refine below_set ?_ GE618.out)|exact HB.out))):w.heap.size≤gb636));have n6_:=Aside0.mk ((by rw [hg];exact Nat.ne_of_lt (blk_lt (g:=gb618) (o:=.cells #[.string (⟨#[]⟩:ByteArray),.slice none 0 0] 142 (0,0)) (by (with_reducible repeat (first|refine blk_drewN ?_ _|refine blk_drew ?_|refine blk_alloc ?_ _));exact BK618.out)):gb618≠gb636));have n7_:=Aside0.mk ((by rw [hg];exact Nat.ne_of_gt (blk_lt (g:=gb618) (o:=.cells #[.string (⟨#[]⟩:ByteArray),.slice none 0 0] 142 (0,0)) (by (with_reducible repeat (first|refine blk_drewN ?_ _|refine blk_drew ?_|refine blk_alloc ?_ _));exact BK618.out)):gb636≠gb618));clear HO635;clear BK618;clear HB;have HO635:=n0_;have BK618:=n1_;have HB:=n2_;have BK636:=n3_;have GW636:=n4_;have GE636:=n5_;have NB618_636:=n6_;have NB636_618:=n7_;clear n0_ n1_ n2_ n3_ n4_ n5_ n6_ n7_;clear hb hbox hg;have hnb40:=NB636_618.out;have hnc40:=NB618_636.out;have hcz41_0:w39.cell? ⟨gb636,0,none⟩=some (.string (⟨#[]⟩:ByteArray)):=(blk_cell BK636.out 0).trans rfl;have hcz41_1:w39.cell? ⟨gb636,1,none⟩=some (.slice none 0 0):=(blk_cell BK636.out 1).trans rfl;have hfz41_0:=blk_frozen BK636.out 0;have hfz41_1:=blk_frozen BK636.out 1;obtain ⟨Ao42,co42,eo42⟩:=Kd.R_slice HO635.out;subst eo42)|((with_reducible refine gate_callee (f:=51) rfl ?_);refine goesL_ (some 68) rfl rfl Try.func51 (by kernel_rfl) rfl #[.string (rdOf ByteArray.empty l3 (ji9)),.string t632] rfl (by (try simp only [List.map_toArray,List.map_cons,List.map_nil]);first|done|(simp only [hji9];rfl)|rfl|(simp only [List.length_drop,List.length_take];rfl)) ?_;(with_reducible refine (mosaicref03_KnotText.calls (rdOf ByteArray.empty l3 (ji9)) t632 t637 _ A33.out).mono ?_);rintro e w' ⟨rfl,⟨nd,rfl⟩⟩;refine ⟨_,rfl,?_⟩)|((with_reducible refine gate_builtin (b:=.append) (xs:=#[.tmp 70,.tmp 72]) rfl ?_);at_builtin;refine Kd.R_append Kd.string (w0:=w) w.heap.size rfl (.tmp 70) (.tmp 72) 39 9 (.string ⟨#[]⟩) 16 rfl Try.underlying39 info9 rfl (by decide) (by omega) (.slice Ao42 t633.length co42) t633 t637 [.string t637] (fun _=>True) (fun _=>False) rfl (by first|(go_simp;done)|(go_simp;rfl)) ?aP (fun _ hk=>hk.elim) ?aF ?aO ?aB ?aS ?aL ?_;(case aP=>exact rfl);(case aB=>exact (by repeat (first|(with_reducible first|exact HB.out|apply below_alloc|apply pw_below_drewN|apply below_drew1|refine below_set ?_ GE618.out|refine below_set ?_ GE636.out)|exact HB.out)));(case aF=>exact (fun _ _=>trivial));(case aO=>exact (by (with_reducible repeat (first|apply Kd.R_alloc|apply Kd.R_drewN|apply Kd.R_drew));exact Kd.R_mono (Kd.R_far (p:=⟨gb636,1,none⟩) (Kd.R_far (p:=⟨gb636,0,none⟩) (Kd.R_types HO635.out BK636.out (by decide)) (fun _ hk=>hk.2) (.string t632)) (fun _ hk=>hk.2) (.slice Ao42 t633.length co42)) (fun _ hk=>trivial)));(case aS=>exact (below_size (by repeat (first|(with_reducible first|exact HB.out|apply below_alloc|apply pw_below_drewN|apply below_drew1|refine below_set ?_ GE618.out|refine below_set ?_ GE636.out)|exact HB.out))));(case aL=>have:=LMc34.out;omega);intro v639 w43 ho hb hg hat;rw [← Ny638.out] at ho;have n0_:=Aside0.mk (blk_grown (g:=gb618) (o:=.cells #[.string (⟨#[]⟩:ByteArray),.slice none 0 0] 142 (0,0)) (by (with_reducible repeat (first|refine blk_drewN ?_ _|refine blk_drew ?_|refine blk_alloc ?_ _));refine blk_far ?_ NB618_636.out _;(with_reducible repeat (first|refine blk_drewN ?_ _|refine blk_drew ?_|refine blk_alloc ?_ _));refine blk_far ?_ NB618_636.out _;(with_reducible repeat (first|refine blk_drewN ?_ _|refine blk_drew ?_|refine blk_alloc ?_ _));exact BK618.out) hg (Kd.R_ne HO635.out BK618.out (by decide)));have n1_:=Aside0.mk (blk_grown (g:=gb636) (o:=.cells #[.string t632,.slice Ao42 t633.length co42] 142 (0,0)) (by (with_reducible repeat (first|refine blk_drewN ?_ _|refine blk_drew ?_|refine blk_alloc ?_ _));refine blk_put (cs:=#[.string t632,.slice none 0 0]) ?_ 1 _ rfl;(with_reducible repeat (first|refine blk_drewN ?_ _|refine blk_drew ?_|refine blk_alloc ?_ _));refine blk_put (cs:=#[.string (⟨#[]⟩:ByteArray),.slice none 0 0]) ?_ 0 _ rfl;(with_reducible repeat (first|refine blk_drewN ?_ _|refine blk_drew ?_|refine blk_alloc ?_ _));exact BK636.out) hg (Kd.R_ne HO635.out BK636.out (by decide)));have n2_:=Aside0.mk (hb);have n3_:=Aside0.mk (ho);clear BK618;clear BK636;clear HB;clear HO635;have BK618:=n0_;have BK636:=n1_;have HB:=n2_;have HO640:=n3_;clear n0_ n1_ n2_ n3_;clear ho hb hg hat;obtain ⟨Ao44,co44,eo44⟩:=Kd.R_slice HO640.out;subst eo44;have hcz45_0:w43.cell? ⟨gb636,0,none⟩=some (.string t632):=(blk_cell BK636.out 0).trans rfl;have hcz45_1:w43.cell? ⟨gb636,1,none⟩=some (.slice Ao42 t633.length co42):=(blk_cell BK636.out 1).trans rfl;have hfz45_0:=blk_frozen BK636.out 0;have hfz45_1:=blk_frozen BK636.out 1)|((with_reducible refine gate_callee (f:=27) rfl ?_);refine goesL_ (some 76) rfl rfl Try.func27 (by kernel_rfl) rfl #[.string t637] rfl (by (try simp only [List.map_toArray,List.map_cons,List.map_nil]);first|done|rfl|(simp only [List.length_drop,List.length_take];rfl)) ?_;(with_reducible refine (mosaicref01_Sum.calls k t637 t641 _ A35.out).mono ?_);rintro e w46 ⟨rfl,hb⟩;refine ⟨_,rfl,?_⟩;have n0_:=Aside0.mk (Kd.R_below (by (with_reducible repeat (first|apply Kd.R_alloc|apply Kd.R_drewN|apply Kd.R_drew));exact (Kd.R_mono (Kd.R_far (p:=⟨gb636,1,none⟩) (Kd.R_types HO640.out BK636.out (by decide)) (fun _ hk=>hk.2) (.slice Ao44 y638.length co44)) (fun _ h_=>h_.1))) hb);have n1_:=Aside0.mk (blk_below (g:=gb618) (o:=.cells #[.string (⟨#[]⟩:ByteArray),.slice none 0 0] 142 (0,0)) (by (with_reducible repeat (first|refine blk_drewN ?_ _|refine blk_drew ?_|refine blk_alloc ?_ _));refine blk_far ?_ NB618_636.out _;(with_reducible repeat (first|refine blk_drewN ?_ _|refine blk_drew ?_|refine blk_alloc ?_ _));exact BK618.out) hb);have n2_:=Aside0.mk (blk_below (g:=gb636) (o:=.cells #[.string t632,.slice Ao44 y638.length co44] 142 (0,0)) (by (with_reducible repeat (first|refine blk_drewN ?_ _|refine blk_drew ?_|refine blk_alloc ?_ _));refine blk_put (cs:=#[.string t632,.slice Ao42 t633.length co42]) ?_ 1 _ rfl;(with_reducible repeat (first|refine blk_drewN ?_ _|refine blk_drew ?_|refine blk_alloc ?_ _));exact BK636.out) hb);have n3_:=Aside0.mk (below_step (by repeat (first|(with_reducible first|exact HB.out|apply below_alloc|apply pw_below_drewN|apply below_drew1|refine below_set ?_ GE618.out|refine below_set ?_ GE636.out)|exact HB.out)) hb);clear HO640;clear BK618;clear BK636;clear HB;have HO640:=n0_;have BK618:=n1_;have BK636:=n2_;have HB:=n3_;clear n0_ n1_ n2_ n3_;(try clear hb);(try clear hb2);(try clear hk);(try clear hi);have hcz47_0:w46.cell? ⟨gb636,0,none⟩=some (.string t632):=(blk_cell BK636.out 0).trans rfl;have hcz47_1:w46.cell? ⟨gb636,1,none⟩=some (.slice Ao44 y638.length co44):=(blk_cell BK636.out 1).trans rfl;have hfz47_0:=blk_frozen BK636.out 0;have hfz47_1:=blk_frozen BK636.out 1;have hcz48_0:w46.cell? ⟨gb618,0,none⟩=some (.string (⟨#[]⟩:ByteArray)):=(blk_cell BK618.out 0).trans rfl;have hcz48_1:w46.cell? ⟨gb618,1,none⟩=some (.slice none 0 0):=(blk_cell BK618.out 1).trans rfl;have hfz48_0:=blk_frozen BK618.out 0;have hfz48_1:=blk_frozen BK618.out 1))
       refine bodyPost_ret (results_cell_row rfl _ _ gb618 142 #[.string t641,.slice Ao44 y638.length co44] (0,0) _ rfl (by (with_reducible repeat (first|refine blk_drewN ?_ _|refine blk_drew ?_|refine blk_alloc ?_ _));refine blk_put (cs:=#[.string t641,.slice none 0 0]) ?_ 1 _ rfl;(with_reducible repeat (first|refine blk_drewN ?_ _|refine blk_drew ?_|refine blk_alloc ?_ _));refine blk_put (cs:=#[.string (⟨#[]⟩:ByteArray),.slice none 0 0]) ?_ 0 _ rfl;(with_reducible repeat (first|refine blk_drewN ?_ _|refine blk_drew ?_|refine blk_alloc ?_ _));refine blk_far ?_ NB618_636.out _;(with_reducible repeat (first|refine blk_drewN ?_ _|refine blk_drew ?_|refine blk_alloc ?_ _));exact BK618.out) Try.underlying142 rfl (by kernel_rfl)) rfl ?_
       exact ⟨_,by first|rfl|(simp [errW_none,errW_some] <;> rfl)|(simp only [← hji9];first|rfl|(simp [errW_none,errW_some] <;> rfl))|(simp [*,errW_none,errW_some] <;> rfl),by (with_reducible repeat (first|apply Kd.R_alloc|apply Kd.R_drewN|apply Kd.R_drew));exact Kd.R_mono (Kd.R_far (p:=⟨gb618,1,none⟩) (Kd.R_far (p:=⟨gb618,0,none⟩) (Kd.R_far (p:=⟨gb636,0,none⟩) (Kd.R_types (Kd.R_types HO640.out BK636.out (by decide)) BK618.out (by decide)) (fun _ hk=>hk.1.2) (.string t641)) (fun _ hk=>hk.2) (.string t641)) (fun _ hk=>hk.2) (.slice Ao44 y638.length co44)) (fun _ hk=>trivial),by repeat (first|(with_reducible first|exact HB.out|apply below_alloc|apply pw_below_drewN|apply below_drew1|refine below_set ?_ GE618.out|refine below_set ?_ GE636.out)|exact HB.out)⟩
      ·
       rw [if_neg c34] at H
       exact absurd H (by simp)
    ·
     rw [if_neg c13] at H
     exact absurd H (by simp)
   ·
    rw [if_neg c11] at H
    exact absurd H (by simp)
  ·
   rw [if_neg c10] at H
   exact absurd H (by simp)
end Go.Proofs.Ytelcaepenfjloaa.Print
/-! #### Pr76 -/
namespace Go.Proofs.Ytelcaepenfjloaa.Print
open Go.RowKit Go.Proofs.YtelcaepenfjloaaW.PrintWords Go.Proofs.YtelcaepenfjloaaW.PrintLast Go.Proofs.YtelcaepenfjloaaW.PrintMore
attribute [local go_sem] max2_int min2_int max_two min_two max_three min_three max_four min_four
set_option linter.unusedVariables false
set_option linter.unusedSimpArgs false
/-! ### mosaicref03_Fold: function 76 -/
def mosaicref03_Fold.f (k:Nat) (a0:Int) (a1:Int) (a2:ByteArray) (l3:List ByteArray):Option (ByteArray×Int):=(mosaicref03_folds.f k a0 a1 a2 l3).bind fun t642=>(if t642=0 then ((mosaicref03_climb.f k a0 a1 a2 l3).bind fun bt643=>(some (bt643.1,0))) else (some ((⟨#[]⟩:ByteArray),t642)))
theorem mosaicref03_Fold.mono:∀ a0 a1 a2 a3 k,LeO (mosaicref03_Fold.f k a0 a1 a2 a3) (mosaicref03_Fold.f (k+1) a0 a1 a2 a3):=by
 intro a0 a1 a2 a3 k
 unfold mosaicref03_Fold.f
 repeat' first
   | (with_reducible exact mosaicref03_climb.mono _ _ _ _ _)
   | (with_reducible exact mosaicref03_folds.mono _ _ _ _ _)
   | (with_reducible exact LeO.refl _)
   | (with_reducible exact LeO.none _)
   | (with_reducible refine LeO.ite ?_ ?_)
   | (with_reducible refine LeO.bind ?_ (fun _=>?_))
   | exact mosaicref03_climb.mono _ _ _ _ _
   | exact mosaicref03_folds.mono _ _ _ _ _
   | exact LeO.none _
   | refine LeO.ite ?_ ?_
   | refine LeO.bind ?_ (fun _=>?_)
set_option maxHeartbeats 8000000 in
set_option maxRecDepth 100000 in
theorem mosaicref03_Fold.calls (k:Nat) (a0:Int) (a1:Int) (a2:ByteArray) (A3:Option Addr) (c3:Nat) (l3:List ByteArray) (r1:ByteArray) (r2:Int) (w:World) (hr3:Kd.C Kd.string w A3 l3.length l3) (hc3:l3.length≤c3) (h:mosaicref03_Fold.f k a0 a1 a2 l3=some (r1,r2)) :
  Calls Try.prog 76 #[.int .i64 a0,.int .i64 a1,.string a2,.slice A3 l3.length c3] w fun e w'=>e=.returned (.tuple #[.string r1,.int .i64 r2])∧Below w.heap.size w w':=by
 have hfd142_0:∀ (y0_ y1_:Value) (W:World),(Instr.field 142 (.agg #[y0_,y1_]) 0).run Try.prog W=.ok (y0_) W:=fun y0_ y1_ W=>by kernel_rfl
 have HR3:=Aside0.mk hr3
 have HC3:=Aside0.mk hc3
 clear hr3 hc3
 have HB:=Aside0.mk (Below.refl w.heap.size w)
 have H:((mosaicref03_folds.f k a0 a1 a2 l3).bind fun t642=>(if t642=0 then ((mosaicref03_climb.f k a0 a1 a2 l3).bind fun bt643=>(some (bt643.1,0))) else (some ((⟨#[]⟩:ByteArray),t642))))=some (r1,r2):=h
 clear h
 replace H:=Option.bind_eq_some_iff.mp H
 obtain ⟨t642,A50,H⟩:=H
 replace H:(if t642=0 then ((mosaicref03_climb.f k a0 a1 a2 l3).bind fun bt643=>(some (bt643.1,0))) else (some ((⟨#[]⟩:ByteArray),t642)))=some (r1,r2):=H
 have A5:=Aside0.mk A50
 clear A50
 by_cases c6:t642=0
 ·
  rw [if_pos c6] at H
  have c6b0:(t642 == 0)=true:=beq_iff_eq.mpr c6
  have c6b1:(t642 != 0)=false:=bne_eq_false_iff_eq.mpr c6
  clear c6
  replace H:=Option.bind_eq_some_iff.mp H
  obtain ⟨⟨t643,t644⟩,A70,H⟩:=H
  replace H:(some (t643,0))=some (r1,r2):=H
  have A7:=Aside0.mk A70
  clear A70
  simp only [Option.some.injEq,Prod.mk.injEq] at H
  obtain ⟨rfl,rfl⟩:=H
  go_enter Try.func76,Try.ntmps76
  go_wp2_with (first|((with_reducible refine gate_callee (f:=111) rfl ?_);refine goesL_ (some 15) rfl rfl Try.func111 (by kernel_rfl) rfl #[.int .i64 a0,.int .i64 a1,.string a2,.slice A3 l3.length c3] rfl (by (try simp only [List.map_toArray,List.map_cons,List.map_nil]);first|done|rfl|(simp only [List.length_drop,List.length_take];rfl)) ?_;(with_reducible refine (mosaicref03_folds.calls k a0 a1 a2 _ _ l3 t642 _ ?side1 ?side2 A5.out).mono ?_);(case side1=>repeat (first|exact HR3.out|(with_reducible refine Kd.C_alloc ?_ _)|(with_reducible refine Kd.C_drewN ?_ _)|(with_reducible refine Kd.C_drew ?_)));(case side2=>exact HC3.out);rintro e w' ⟨rfl,⟨nd,rfl⟩⟩;refine ⟨_,rfl,?_⟩)|((with_reducible refine gate_callee (f:=112) rfl ?_);refine goesL_ (some 23) rfl rfl Try.func112 (by kernel_rfl) rfl #[.int .i64 a0,.int .i64 a1,.string a2,.slice A3 l3.length c3] rfl (by (try simp only [List.map_toArray,List.map_cons,List.map_nil]);first|done|rfl|(simp only [List.length_drop,List.length_take];rfl)) ?_;(with_reducible refine (mosaicref03_climb.calls k a0 a1 a2 _ _ l3 t643 t644 _ ?side1 ?side2 A7.out).mono ?_);(case side1=>repeat (first|exact HR3.out|(with_reducible refine Kd.C_alloc ?_ _)|(with_reducible refine Kd.C_drewN ?_ _)|(with_reducible refine Kd.C_drew ?_)));(case side2=>exact HC3.out);rintro e w8 ⟨v645,rfl,ho0,hb⟩;refine ⟨_,rfl,?_⟩;have n0_:=Aside0.mk (Kd.R_lower ho0 (below_size (by repeat (first|(with_reducible first|exact HB.out|apply below_alloc|apply pw_below_drewN|apply below_drew1)|exact HB.out))));have n1_:=Aside0.mk (below_step (by repeat (first|(with_reducible first|exact HB.out|apply below_alloc|apply pw_below_drewN|apply below_drew1)|exact HB.out)) hb);clear HB;have HO646:=n0_;have HB:=n1_;clear n0_ n1_;(try clear hb);(try clear hb2);(try clear hk);(try clear hi);(try clear ho0)))
  go_ret2
  exact ⟨by first|rfl|(simp [errW_none,errW_some] <;> rfl)|(simp [*,errW_none,errW_some] <;> rfl),by repeat (first|(with_reducible first|exact HB.out|apply below_alloc|apply pw_below_drewN|apply below_drew1)|exact HB.out)⟩
 ·
  rw [if_neg c6] at H
  have c6b0:(t642 == 0)=false:=beq_eq_false_iff_ne.mpr c6
  have c6b1:(t642 != 0)=true:=bne_iff_ne.mpr c6
  simp only [Option.some.injEq,Prod.mk.injEq] at H
  obtain ⟨rfl,rfl⟩:=H
  go_enter Try.func76,Try.ntmps76
  go_wp2_with (first|((with_reducible refine gate_callee (f:=111) rfl ?_);refine goesL_ (some 15) rfl rfl Try.func111 (by kernel_rfl) rfl #[.int .i64 a0,.int .i64 a1,.string a2,.slice A3 l3.length c3] rfl (by (try simp only [List.map_toArray,List.map_cons,List.map_nil]);first|done|rfl|(simp only [List.length_drop,List.length_take];rfl)) ?_;(with_reducible refine (mosaicref03_folds.calls k a0 a1 a2 _ _ l3 t642 _ ?side1 ?side2 A5.out).mono ?_);(case side1=>repeat (first|exact HR3.out|(with_reducible refine Kd.C_alloc ?_ _)|(with_reducible refine Kd.C_drewN ?_ _)|(with_reducible refine Kd.C_drew ?_)));(case side2=>exact HC3.out);rintro e w' ⟨rfl,⟨nd,rfl⟩⟩;refine ⟨_,rfl,?_⟩))
  go_ret2
  exact ⟨by first|rfl|(simp [errW_none,errW_some] <;> rfl)|(simp [*,errW_none,errW_some] <;> rfl),by repeat (first|(with_reducible first|exact HB.out|apply below_alloc|apply pw_below_drewN|apply below_drew1)|exact HB.out)⟩
end Go.Proofs.Ytelcaepenfjloaa.Print
/-! #### Pr78 -/
namespace Go.Proofs.Ytelcaepenfjloaa.Print
open Go.RowKit Go.Proofs.YtelcaepenfjloaaW.PrintWords Go.Proofs.YtelcaepenfjloaaW.PrintLast Go.Proofs.YtelcaepenfjloaaW.PrintMore
attribute [local go_sem] max2_int min2_int max_two min_two max_three min_three max_four min_four
set_option linter.unusedVariables false
set_option linter.unusedSimpArgs false
/-! ### mosaicref03_Climb: function 78 -/
def mosaicref03_Climb.f (k:Nat) (a0:Int) (a1:Int) (a2:ByteArray) (l3:List ByteArray):Option (List ByteArray):=(mosaicref03_folds.f k a0 a1 a2 l3).bind fun t652=>(if t652=0 then ((mosaicref03_climb.f k a0 a1 a2 l3).bind fun bt653=>(some bt653.2)) else (some ([]:List ByteArray)))
theorem mosaicref03_Climb.mono:∀ a0 a1 a2 a3 k,LeO (mosaicref03_Climb.f k a0 a1 a2 a3) (mosaicref03_Climb.f (k+1) a0 a1 a2 a3):=by
 intro a0 a1 a2 a3 k
 unfold mosaicref03_Climb.f
 repeat' first
   | (with_reducible exact mosaicref03_climb.mono _ _ _ _ _)
   | (with_reducible exact mosaicref03_folds.mono _ _ _ _ _)
   | (with_reducible exact LeO.refl _)
   | (with_reducible exact LeO.none _)
   | (with_reducible refine LeO.ite ?_ ?_)
   | (with_reducible refine LeO.bind ?_ (fun _=>?_))
   | exact mosaicref03_climb.mono _ _ _ _ _
   | exact mosaicref03_folds.mono _ _ _ _ _
   | exact LeO.none _
   | refine LeO.ite ?_ ?_
   | refine LeO.bind ?_ (fun _=>?_)
set_option maxHeartbeats 8000000 in
set_option maxRecDepth 100000 in
theorem mosaicref03_Climb.calls (k:Nat) (a0:Int) (a1:Int) (a2:ByteArray) (A3:Option Addr) (c3:Nat) (l3:List ByteArray) (r:List ByteArray) (w:World) (hr3:Kd.C Kd.string w A3 l3.length l3) (hc3:l3.length≤c3) (h:mosaicref03_Climb.f k a0 a1 a2 l3=some r) :
  Calls Try.prog 78 #[.int .i64 a0,.int .i64 a1,.string a2,.slice A3 l3.length c3] w fun e w'=>∃ v0_:Value,e=.returned (v0_)∧Kd.R Kd.string 9 w' w.heap.size (fun _=>True) v0_ r∧Below w.heap.size w w':=by
 have hfd142_1:∀ (y0_ y1_:Value) (W:World),(Instr.field 142 (.agg #[y0_,y1_]) 1).run Try.prog W=.ok (y1_) W:=fun y0_ y1_ W=>by kernel_rfl
 have HR3:=Aside0.mk hr3
 have HC3:=Aside0.mk hc3
 clear hr3 hc3
 have HB:=Aside0.mk (Below.refl w.heap.size w)
 have H:((mosaicref03_folds.f k a0 a1 a2 l3).bind fun t652=>(if t652=0 then ((mosaicref03_climb.f k a0 a1 a2 l3).bind fun bt653=>(some bt653.2)) else (some ([]:List ByteArray))))=some r:=h
 clear h
 replace H:=Option.bind_eq_some_iff.mp H
 obtain ⟨t652,A50,H⟩:=H
 replace H:(if t652=0 then ((mosaicref03_climb.f k a0 a1 a2 l3).bind fun bt653=>(some bt653.2)) else (some ([]:List ByteArray)))=some r:=H
 have A5:=Aside0.mk A50
 clear A50
 by_cases c6:t652=0
 ·
  rw [if_pos c6] at H
  have c6b0:(t652 == 0)=true:=beq_iff_eq.mpr c6
  have c6b1:(t652 != 0)=false:=bne_eq_false_iff_eq.mpr c6
  clear c6
  replace H:=Option.bind_eq_some_iff.mp H
  obtain ⟨⟨t653,t654⟩,A70,H⟩:=H
  replace H:(some t654)=some r:=H
  have A7:=Aside0.mk A70
  clear A70
  obtain rfl:=Option.some.inj H
  go_enter Try.func78,Try.ntmps78
  go_wp2_with (first|((with_reducible refine gate_callee (f:=111) rfl ?_);refine goesL_ (some 13) rfl rfl Try.func111 (by kernel_rfl) rfl #[.int .i64 a0,.int .i64 a1,.string a2,.slice A3 l3.length c3] rfl (by (try simp only [List.map_toArray,List.map_cons,List.map_nil]);first|done|rfl|(simp only [List.length_drop,List.length_take];rfl)) ?_;(with_reducible refine (mosaicref03_folds.calls k a0 a1 a2 _ _ l3 t652 _ ?side1 ?side2 A5.out).mono ?_);(case side1=>repeat (first|exact HR3.out|(with_reducible refine Kd.C_alloc ?_ _)|(with_reducible refine Kd.C_drewN ?_ _)|(with_reducible refine Kd.C_drew ?_)));(case side2=>exact HC3.out);rintro e w' ⟨rfl,⟨nd,rfl⟩⟩;refine ⟨_,rfl,?_⟩)|((with_reducible refine gate_callee (f:=112) rfl ?_);refine goesL_ (some 19) rfl rfl Try.func112 (by kernel_rfl) rfl #[.int .i64 a0,.int .i64 a1,.string a2,.slice A3 l3.length c3] rfl (by (try simp only [List.map_toArray,List.map_cons,List.map_nil]);first|done|rfl|(simp only [List.length_drop,List.length_take];rfl)) ?_;(with_reducible refine (mosaicref03_climb.calls k a0 a1 a2 _ _ l3 t653 t654 _ ?side1 ?side2 A7.out).mono ?_);(case side1=>repeat (first|exact HR3.out|(with_reducible refine Kd.C_alloc ?_ _)|(with_reducible refine Kd.C_drewN ?_ _)|(with_reducible refine Kd.C_drew ?_)));(case side2=>exact HC3.out);rintro e w8 ⟨v655,rfl,ho0,hb⟩;refine ⟨_,rfl,?_⟩;have n0_:=Aside0.mk (Kd.R_lower ho0 (below_size (by repeat (first|(with_reducible first|exact HB.out|apply below_alloc|apply pw_below_drewN|apply below_drew1)|exact HB.out))));have n1_:=Aside0.mk (below_step (by repeat (first|(with_reducible first|exact HB.out|apply below_alloc|apply pw_below_drewN|apply below_drew1)|exact HB.out)) hb);clear HB;have HO656:=n0_;have HB:=n1_;clear n0_ n1_;(try clear hb);(try clear hb2);(try clear hk);(try clear hi);(try clear ho0)))
  go_ret
  exact ⟨_,by first|rfl|(simp [errW_none,errW_some] <;> rfl)|(simp [*,errW_none,errW_some] <;> rfl),by (with_reducible repeat (first|apply Kd.R_alloc|apply Kd.R_drewN|apply Kd.R_drew));exact HO656.out,by repeat (first|(with_reducible first|exact HB.out|apply below_alloc|apply pw_below_drewN|apply below_drew1)|exact HB.out)⟩
 ·
  rw [if_neg c6] at H
  have c6b0:(t652 == 0)=false:=beq_eq_false_iff_ne.mpr c6
  have c6b1:(t652 != 0)=true:=bne_iff_ne.mpr c6
  obtain rfl:=Option.some.inj H
  go_enter Try.func78,Try.ntmps78
  go_wp2_with (first|((with_reducible refine gate_callee (f:=111) rfl ?_);refine goesL_ (some 13) rfl rfl Try.func111 (by kernel_rfl) rfl #[.int .i64 a0,.int .i64 a1,.string a2,.slice A3 l3.length c3] rfl (by (try simp only [List.map_toArray,List.map_cons,List.map_nil]);first|done|rfl|(simp only [List.length_drop,List.length_take];rfl)) ?_;(with_reducible refine (mosaicref03_folds.calls k a0 a1 a2 _ _ l3 t652 _ ?side1 ?side2 A5.out).mono ?_);(case side1=>repeat (first|exact HR3.out|(with_reducible refine Kd.C_alloc ?_ _)|(with_reducible refine Kd.C_drewN ?_ _)|(with_reducible refine Kd.C_drew ?_)));(case side2=>exact HC3.out);rintro e w' ⟨rfl,⟨nd,rfl⟩⟩;refine ⟨_,rfl,?_⟩))
  go_ret
  exact ⟨_,by first|rfl|(simp [errW_none,errW_some] <;> rfl)|(simp [*,errW_none,errW_some] <;> rfl),by first|exact Kd.R_nil _ _ _ _ _|exact Kd.N_nil _ _ _ _ _|exact Kd.V_nil _ _ _ _ _|exact Kd.Q_nil _ _ _ _ _|exact Kd.S_nil _ _ _ _ _,by repeat (first|(with_reducible first|exact HB.out|apply below_alloc|apply pw_below_drewN|apply below_drew1)|exact HB.out)⟩
end Go.Proofs.Ytelcaepenfjloaa.Print
/-! #### Pr80 -/
namespace Go.Proofs.Ytelcaepenfjloaa.Print
open Go.RowKit Go.Proofs.YtelcaepenfjloaaW.PrintWords Go.Proofs.YtelcaepenfjloaaW.PrintLast Go.Proofs.YtelcaepenfjloaaW.PrintMore
attribute [local go_sem] max2_int min2_int max_two min_two max_three min_three max_four min_four
set_option linter.unusedVariables false
set_option linter.unusedSimpArgs false
/-! ### mosaicref03_Check: function 80 -/
def mosaicref03_Check.f (k:Nat) (a0:ByteArray) (a1:Int) (a2:Int) (a3:ByteArray) (l4:List ByteArray):Option (Bool):=(mosaicref03_Fold.f k a1 a2 a3 l4).bind fun bt659=>(if bt659.2=0 then (some (bt659.1.toList == a0.toList)) else (some false))
theorem mosaicref03_Check.mono:∀ a0 a1 a2 a3 a4 k,LeO (mosaicref03_Check.f k a0 a1 a2 a3 a4) (mosaicref03_Check.f (k+1) a0 a1 a2 a3 a4):=by
 intro a0 a1 a2 a3 a4 k
 unfold mosaicref03_Check.f
 repeat' first
   | (with_reducible exact mosaicref03_Fold.mono _ _ _ _ _)
   | (with_reducible exact LeO.refl _)
   | (with_reducible exact LeO.none _)
   | (with_reducible refine LeO.ite ?_ ?_)
   | (with_reducible refine LeO.bind ?_ (fun _=>?_))
   | exact mosaicref03_Fold.mono _ _ _ _ _
   | exact LeO.none _
   | refine LeO.ite ?_ ?_
   | refine LeO.bind ?_ (fun _=>?_)
set_option maxHeartbeats 8000000 in
set_option maxRecDepth 100000 in
theorem mosaicref03_Check.calls (k:Nat) (a0:ByteArray) (a1:Int) (a2:Int) (a3:ByteArray) (A4:Option Addr) (c4:Nat) (l4:List ByteArray) (r:Bool) (w:World) (hr4:Kd.C Kd.string w A4 l4.length l4) (hc4:l4.length≤c4) (h:mosaicref03_Check.f k a0 a1 a2 a3 l4=some r) :
  Calls Try.prog 80 #[.string a0,.int .i64 a1,.int .i64 a2,.string a3,.slice A4 l4.length c4] w fun e w'=>e=.returned (.bool r)∧Below w.heap.size w w':=by
 have HR4:=Aside0.mk hr4
 have HC4:=Aside0.mk hc4
 clear hr4 hc4
 have HB:=Aside0.mk (Below.refl w.heap.size w)
 have H:((mosaicref03_Fold.f k a1 a2 a3 l4).bind fun bt659=>(if bt659.2=0 then (some (bt659.1.toList == a0.toList)) else (some false)))=some r:=h
 clear h
 replace H:=Option.bind_eq_some_iff.mp H
 obtain ⟨⟨t659,t660⟩,A60,H⟩:=H
 replace H:(if t660=0 then (some (t659.toList == a0.toList)) else (some false))=some r:=H
 have A6:=Aside0.mk A60
 clear A60
 by_cases c7:t660=0
 ·
  rw [if_pos c7] at H
  have c7b0:(t660 == 0)=true:=beq_iff_eq.mpr c7
  have c7b1:(t660 != 0)=false:=bne_eq_false_iff_eq.mpr c7
  clear c7
  obtain rfl:=Option.some.inj H
  go_enter Try.func80,Try.ntmps80
  go_wp2_with (first|((with_reducible refine gate_callee (f:=76) rfl ?_);refine goesL_ (some 18) rfl rfl Try.func76 (by kernel_rfl) rfl #[.int .i64 a1,.int .i64 a2,.string a3,.slice A4 l4.length c4] rfl (by (try simp only [List.map_toArray,List.map_cons,List.map_nil]);first|done|rfl|(simp only [List.length_drop,List.length_take];rfl)) ?_;(with_reducible refine (mosaicref03_Fold.calls k a1 a2 a3 _ _ l4 t659 t660 _ ?side1 ?side2 A6.out).mono ?_);(case side1=>repeat (first|exact HR4.out|(with_reducible refine Kd.C_alloc ?_ _)|(with_reducible refine Kd.C_drewN ?_ _)|(with_reducible refine Kd.C_drew ?_)));(case side2=>exact HC4.out);rintro e w8 ⟨rfl,hb⟩;refine ⟨_,rfl,?_⟩;have n0_:=Aside0.mk (below_step (by repeat (first|(with_reducible first|exact HB.out|apply below_alloc|apply pw_below_drewN|apply below_drew1)|exact HB.out)) hb);clear HB;have HB:=n0_;clear n0_;(try clear hb);(try clear hb2);(try clear hk);(try clear hi)))
  go_ret
  exact ⟨by first|rfl|(simp [errW_none,errW_some] <;> rfl)|(simp [*,errW_none,errW_some] <;> rfl),by repeat (first|(with_reducible first|exact HB.out|apply below_alloc|apply pw_below_drewN|apply below_drew1)|exact HB.out)⟩
 ·
  rw [if_neg c7] at H
  have c7b0:(t660 == 0)=false:=beq_eq_false_iff_ne.mpr c7
  have c7b1:(t660 != 0)=true:=bne_iff_ne.mpr c7
  obtain rfl:=Option.some.inj H
  go_enter Try.func80,Try.ntmps80
  go_wp2_with (first|((with_reducible refine gate_callee (f:=76) rfl ?_);refine goesL_ (some 18) rfl rfl Try.func76 (by kernel_rfl) rfl #[.int .i64 a1,.int .i64 a2,.string a3,.slice A4 l4.length c4] rfl (by (try simp only [List.map_toArray,List.map_cons,List.map_nil]);first|done|rfl|(simp only [List.length_drop,List.length_take];rfl)) ?_;(with_reducible refine (mosaicref03_Fold.calls k a1 a2 a3 _ _ l4 t659 t660 _ ?side1 ?side2 A6.out).mono ?_);(case side1=>repeat (first|exact HR4.out|(with_reducible refine Kd.C_alloc ?_ _)|(with_reducible refine Kd.C_drewN ?_ _)|(with_reducible refine Kd.C_drew ?_)));(case side2=>exact HC4.out);rintro e w9 ⟨rfl,hb⟩;refine ⟨_,rfl,?_⟩;have n0_:=Aside0.mk (below_step (by repeat (first|(with_reducible first|exact HB.out|apply below_alloc|apply pw_below_drewN|apply below_drew1)|exact HB.out)) hb);clear HB;have HB:=n0_;clear n0_;(try clear hb);(try clear hb2);(try clear hk);(try clear hi)))
  go_ret
  exact ⟨by first|rfl|(simp [errW_none,errW_some] <;> rfl)|(simp [*,errW_none,errW_some] <;> rfl),by repeat (first|(with_reducible first|exact HB.out|apply below_alloc|apply pw_below_drewN|apply below_drew1)|exact HB.out)⟩
end Go.Proofs.Ytelcaepenfjloaa.Print
/-! #### Pr81 -/
namespace Go.Proofs.Ytelcaepenfjloaa.Print
open Go.RowKit Go.Proofs.YtelcaepenfjloaaW.PrintWords Go.Proofs.YtelcaepenfjloaaW.PrintLast Go.Proofs.YtelcaepenfjloaaW.PrintMore
attribute [local go_sem] max2_int min2_int max_two min_two max_three min_three max_four min_four
set_option linter.unusedVariables false
set_option linter.unusedSimpArgs false
/-! ### merkle_Road: function 81 -/
def merkle_Road.f (k:Nat) (a0:Int) (a1:Int) (a2:ByteArray) (l3:List ByteArray):Option (List ByteArray):=(merkle_Leaf.f a2).bind fun t661=>((merkle_folds.f a0 a1 t661 l3).bind fun t662=>(if t662=0 then (if 1+a2.size≤9223372036854775807 then ((some (([(⟨#[0]⟩:ByteArray) ++ a2]:List ByteArray):List ByteArray)).bind fun y663=>((merkle_Climb.f k a0 a1 t661 l3).bind fun t666=>(if y663.length+t666.length < 8796093022208 then (some (y663 ++ t666)) else (none)))) else (none)) else (some ([]:List ByteArray))))
theorem merkle_Road.mono:∀ a0 a1 a2 a3 k,LeO (merkle_Road.f k a0 a1 a2 a3) (merkle_Road.f (k+1) a0 a1 a2 a3):=by
 intro a0 a1 a2 a3 k
 unfold merkle_Road.f
 repeat' first
   | (with_reducible exact merkle_Climb.mono _ _ _ _ _)
   | (with_reducible exact LeO.refl _)
   | (with_reducible exact LeO.none _)
   | (with_reducible refine LeO.ite ?_ ?_)
   | (with_reducible refine LeO.bind ?_ (fun _=>?_))
   | exact merkle_Climb.mono _ _ _ _ _
   | exact LeO.none _
   | refine LeO.ite ?_ ?_
   | refine LeO.bind ?_ (fun _=>?_)
set_option maxHeartbeats 8000000 in
set_option maxRecDepth 100000 in
theorem merkle_Road.calls (k:Nat) (a0:Int) (a1:Int) (a2:ByteArray) (A3:Option Addr) (c3:Nat) (l3:List ByteArray) (r:List ByteArray) (w:World) (hr3:Kd.C Kd.string w A3 l3.length l3) (hc3:l3.length≤c3) (h:merkle_Road.f k a0 a1 a2 l3=some r) :
  Calls Try.prog 81 #[.int .i64 a0,.int .i64 a1,.string a2,.slice A3 l3.length c3] w fun e w'=>∃ v0_:Value,e=.returned (v0_)∧Kd.R Kd.string 9 w' w.heap.size (fun _=>True) v0_ r∧Below w.heap.size w w':=by
 have HR3:=Aside0.mk hr3
 have HC3:=Aside0.mk hc3
 clear hr3 hc3
 have HB:=Aside0.mk (Below.refl w.heap.size w)
 have H:((merkle_Leaf.f a2).bind fun t661=>((merkle_folds.f a0 a1 t661 l3).bind fun t662=>(if t662=0 then (if 1+a2.size≤9223372036854775807 then ((some (([(⟨#[0]⟩:ByteArray) ++ a2]:List ByteArray):List ByteArray)).bind fun y663=>((merkle_Climb.f k a0 a1 t661 l3).bind fun t666=>(if y663.length+t666.length < 8796093022208 then (some (y663 ++ t666)) else (none)))) else (none)) else (some ([]:List ByteArray)))))=some r:=h
 clear h
 replace H:=Option.bind_eq_some_iff.mp H
 obtain ⟨t661,A50,H⟩:=H
 replace H:((merkle_folds.f a0 a1 t661 l3).bind fun t662=>(if t662=0 then (if 1+a2.size≤9223372036854775807 then ((some (([(⟨#[0]⟩:ByteArray) ++ a2]:List ByteArray):List ByteArray)).bind fun y663=>((merkle_Climb.f k a0 a1 t661 l3).bind fun t666=>(if y663.length+t666.length < 8796093022208 then (some (y663 ++ t666)) else (none)))) else (none)) else (some ([]:List ByteArray))))=some r:=H
 have A5:=Aside0.mk A50
 clear A50
 replace H:=Option.bind_eq_some_iff.mp H
 obtain ⟨t662,A60,H⟩:=H
 replace H:(if t662=0 then (if 1+a2.size≤9223372036854775807 then ((some (([(⟨#[0]⟩:ByteArray) ++ a2]:List ByteArray):List ByteArray)).bind fun y663=>((merkle_Climb.f k a0 a1 t661 l3).bind fun t666=>(if y663.length+t666.length < 8796093022208 then (some (y663 ++ t666)) else (none)))) else (none)) else (some ([]:List ByteArray)))=some r:=H
 have A6:=Aside0.mk A60
 clear A60
 by_cases c7:t662=0
 ·
  rw [if_pos c7] at H
  have c7b0:(t662 == 0)=true:=beq_iff_eq.mpr c7
  have c7b1:(t662 != 0)=false:=bne_eq_false_iff_eq.mpr c7
  clear c7
  by_cases c8:1+a2.size≤9223372036854775807
  ·
   rw [if_pos c8] at H
   have c8b0:=eq_true c8
   have c8b1:decide (1+a2.size≤9223372036854775807)=true:=decide_eq_true c8
   try have c8b2:(9223372036854775807 < 1+a2.size)=False:=eq_false (Nat.not_lt.2 c8)
   obtain ⟨y663,hy663⟩:∃ y_:List ByteArray,y_=(([(⟨#[0]⟩:ByteArray) ++ a2]:List ByteArray)):=⟨_,rfl⟩
   replace H:((merkle_Climb.f k a0 a1 t661 l3).bind fun t666=>(if y663.length+t666.length < 8796093022208 then (some (y663 ++ t666)) else (none)))=some r:=by first|(rw [hy663];with_reducible exact H)|(have H2_:=(Option.bind_some _ _).symm.trans H;rw [hy663];with_reducible exact H2_)|(have H2_:=(Option.bind_some _ _).symm.trans H;with_reducible exact H2_)|with_reducible exact H|(rw [hy663];exact H)|exact H
   have Ny663:=Aside0.mk hy663
   clear hy663
   replace H:=Option.bind_eq_some_iff.mp H
   obtain ⟨t666,A90,H⟩:=H
   replace H:(if y663.length+t666.length < 8796093022208 then (some (y663 ++ t666)) else (none))=some r:=H
   have A9:=Aside0.mk A90
   clear A90
   by_cases c10:y663.length+t666.length < 8796093022208
   ·
    rw [if_pos c10] at H
    have LMc10:=Aside0.mk c10
    clear c10
    obtain ⟨y669,hy669⟩:∃ y_:List ByteArray,y_=(y663 ++ t666):=⟨_,rfl⟩
    replace H:(some y669)=some r:=by first|(rw [hy669];with_reducible exact H)|(have H2_:=(Option.bind_some _ _).symm.trans H;rw [hy669];with_reducible exact H2_)|(have H2_:=(Option.bind_some _ _).symm.trans H;with_reducible exact H2_)|with_reducible exact H|(rw [hy669];exact H)|exact H
    have Ny669:=Aside0.mk hy669
    clear hy669
    obtain rfl:=Option.some.inj H
    go_enter Try.func81,Try.ntmps81
    go_wp2_with (first|((with_reducible refine gate_callee (f:=48) rfl ?_);refine goesL_ (some 11) rfl rfl Try.func48 (by kernel_rfl) rfl #[.string a2] rfl (by (try simp only [List.map_toArray,List.map_cons,List.map_nil]);first|done|rfl|(simp only [List.length_drop,List.length_take];rfl)) ?_;(with_reducible refine (merkle_Leaf.calls a2 t661 _ A5.out).mono ?_);rintro e w11 ⟨rfl,hb⟩;refine ⟨_,rfl,?_⟩;have n0_:=Aside0.mk (below_step (by repeat (first|(with_reducible first|exact HB.out|apply below_alloc|apply pw_below_drewN|apply below_drew1)|exact HB.out)) hb);clear HB;have HB:=n0_;clear n0_;(try clear hb);(try clear hb2);(try clear hk);(try clear hi))|((with_reducible refine gate_callee (f:=109) rfl ?_);refine goesL_ (some 16) rfl rfl Try.func109 (by kernel_rfl) rfl #[.int .i64 a0,.int .i64 a1,.string t661,.slice A3 l3.length c3] rfl (by (try simp only [List.map_toArray,List.map_cons,List.map_nil]);first|done|rfl|(simp only [List.length_drop,List.length_take];rfl)) ?_;(with_reducible refine (merkle_folds.calls a0 a1 t661 _ _ l3 t662 _ ?side1 ?side2 A6.out).mono ?_);(case side1=>repeat (first|exact (Kd.C_below HR3.out HB.out)|(with_reducible refine Kd.C_alloc ?_ _)|(with_reducible refine Kd.C_drewN ?_ _)|(with_reducible refine Kd.C_drew ?_)));(case side2=>exact HC3.out);rintro e w12 ⟨rfl,hb⟩;refine ⟨_,rfl,?_⟩;have n0_:=Aside0.mk (below_step (by repeat (first|(with_reducible first|exact HB.out|apply below_alloc|apply pw_below_drewN|apply below_drew1)|exact HB.out)) hb);clear HB;have HB:=n0_;clear n0_;(try clear hb);(try clear hb2);(try clear hk);(try clear hi))|((with_reducible refine gate_dst (N:=20) rfl ?_);refine Kd.R_lit Kd.string _ 9 ?hg (N:=20) ?hd (xs:=([(⟨#[0]⟩:ByteArray) ++ a2]:List ByteArray)) (inner:=[.string ((⟨#[0]⟩:ByteArray) ++ a2)]) (ok:=fun _=>True) (okp:=fun _=>True) ?hr ?hp (fun _ hk=>hk) trivial (Below.refl _ _) (Nat.le_refl _) (by simp) ?_;(case hd=>rfl);(case hg=>rfl);(case hr=>first|(go_simp;done)|(go_simp;rfl));(case hp=>exact (Reps.one (show Kd.M Kd.string _ _ _ ((⟨#[0]⟩:ByteArray) ++ a2) [.string ((⟨#[0]⟩:ByteArray) ++ a2)] from rfl) (Reps.none _ _)));intro v664 w13 ho14 hb hg_ hnew_;clear hg_ hnew_;(first|rw [← Ny663.out] at ho14|(simp only [Int.reduceToNat] at ho14;rw [← Ny663.out] at ho14));have n0_:=Aside0.mk (Kd.R_lower ho14 (below_size (by repeat (first|(with_reducible first|exact HB.out|apply below_alloc|apply pw_below_drewN|apply below_drew1)|exact HB.out))));have n1_:=Aside0.mk (below_step (by repeat (first|(with_reducible first|exact HB.out|apply below_alloc|apply pw_below_drewN|apply below_drew1)|exact HB.out)) hb);clear HB;have HO665:=n0_;have HB:=n1_;clear n0_ n1_;clear hb ho14)|((with_reducible refine gate_callee (f:=77) rfl ?_);refine goesL_ (some 25) rfl rfl Try.func77 (by kernel_rfl) rfl #[.int .i64 a0,.int .i64 a1,.string t661,.slice A3 l3.length c3] rfl (by (try simp only [List.map_toArray,List.map_cons,List.map_nil]);first|done|rfl|(simp only [List.length_drop,List.length_take];rfl)) ?_;(with_reducible refine (merkle_Climb.calls k a0 a1 t661 _ _ l3 t666 _ ?side1 ?side2 A9.out).mono ?_);(case side1=>repeat (first|exact (Kd.C_below HR3.out HB.out)|(with_reducible refine Kd.C_alloc ?_ _)|(with_reducible refine Kd.C_drewN ?_ _)|(with_reducible refine Kd.C_drew ?_)));(case side2=>exact HC3.out);rintro e w15 ⟨v667,rfl,ho0,hb⟩;refine ⟨_,rfl,?_⟩;have n0_:=Aside0.mk (Kd.R_elder' (by (with_reducible repeat (first|apply Kd.R_alloc|apply Kd.R_drewN|apply Kd.R_drew));exact HO665.out) (Kd.R_base ho0) hb);have n1_:=Aside0.mk (Kd.R_lower (Kd.R_new' ho0 (Kd.R_lt (by (with_reducible repeat (first|apply Kd.R_alloc|apply Kd.R_drewN|apply Kd.R_drew));exact HO665.out))) (below_size (by repeat (first|(with_reducible first|exact HB.out|apply below_alloc|apply pw_below_drewN|apply below_drew1)|exact HB.out))));have n2_:=Aside0.mk (below_step (by repeat (first|(with_reducible first|exact HB.out|apply below_alloc|apply pw_below_drewN|apply below_drew1)|exact HB.out)) hb);clear HO665;clear HB;have HO665:=n0_;have HO668:=n1_;have HB:=n2_;clear n0_ n1_ n2_;(try clear hb);(try clear hb2);(try clear hk);(try clear hi);(try clear ho0);obtain ⟨Ao17,co17,eo17⟩:=Kd.R_slice HO668.out;subst eo17)|((with_reducible refine gate_builtin (b:=.append) (xs:=#[.tmp 20,.tmp 25]) rfl ?_);at_builtin;refine Kd.R_append_rows Kd.string (w0:=w) w.heap.size rfl (.tmp 20) (.tmp 25) 39 9 (.string ⟨#[]⟩) 16 rfl Try.underlying39 info9 rfl (by decide) (by omega) v664 y663 t666 _ _ _ (fun k_=>some k_≠(.slice Ao17 t666.length co17:Value).ownBlock) (fun _=>False) rfl rfl ?aO ?aR (fun _ _ h=>h) (fun _ h=>h.elim) ?aF ?aB ?aS ?aL ?_;(case aR=>repeat (first|exact (Kd.R_reads' HO668.out).2.2|(with_reducible refine Kd.C_alloc ?_ _)|(with_reducible refine Kd.C_drewN ?_ _)|(with_reducible refine Kd.C_drew ?_)));(case aB=>exact (by repeat (first|(with_reducible first|exact HB.out|apply below_alloc|apply pw_below_drewN|apply below_drew1)|exact HB.out)));(case aF=>exact (fun k_ hk=>Kd.fresh' (Kd.R_lt (by (with_reducible repeat (first|apply Kd.R_alloc|apply Kd.R_drewN|apply Kd.R_drew));exact HO668.out)) k_ hk));(case aO=>exact (by (with_reducible repeat (first|apply Kd.R_alloc|apply Kd.R_drewN|apply Kd.R_drew));exact Kd.R_mono HO665.out (fun _ hk=>hk.2)));(case aS=>exact (below_size (by repeat (first|(with_reducible first|exact HB.out|apply below_alloc|apply pw_below_drewN|apply below_drew1)|exact HB.out))));(case aL=>have:=LMc10.out;omega);intro v670 w16 ho hb hg hat;rw [← Ny669.out] at ho;have n0_:=Aside0.mk (Kd.R_after (ok:=(fun _=>True)) (by (with_reducible repeat (first|apply Kd.R_alloc|apply Kd.R_drewN|apply Kd.R_drew));exact HO668.out) hg hat);have n1_:=Aside0.mk (hb);have n2_:=Aside0.mk (ho);clear HO668;clear HB;clear HO665;have HO668:=n0_;have HB:=n1_;have HO671:=n2_;clear n0_ n1_ n2_;clear ho hb hg hat))
    go_ret
    exact ⟨_,by first|rfl|(simp [errW_none,errW_some] <;> rfl)|(simp [*,errW_none,errW_some] <;> rfl),by (with_reducible repeat (first|apply Kd.R_alloc|apply Kd.R_drewN|apply Kd.R_drew));exact Kd.R_mono HO671.out (fun _ hk=>trivial),by repeat (first|(with_reducible first|exact HB.out|apply below_alloc|apply pw_below_drewN|apply below_drew1)|exact HB.out)⟩
   ·
    rw [if_neg c10] at H
    exact absurd H (by simp)
  ·
   rw [if_neg c8] at H
   exact absurd H (by simp)
 ·
  rw [if_neg c7] at H
  have c7b0:(t662 == 0)=false:=beq_eq_false_iff_ne.mpr c7
  have c7b1:(t662 != 0)=true:=bne_iff_ne.mpr c7
  obtain rfl:=Option.some.inj H
  go_enter Try.func81,Try.ntmps81
  go_wp2_with (first|((with_reducible refine gate_callee (f:=48) rfl ?_);refine goesL_ (some 11) rfl rfl Try.func48 (by kernel_rfl) rfl #[.string a2] rfl (by (try simp only [List.map_toArray,List.map_cons,List.map_nil]);first|done|rfl|(simp only [List.length_drop,List.length_take];rfl)) ?_;(with_reducible refine (merkle_Leaf.calls a2 t661 _ A5.out).mono ?_);rintro e w18 ⟨rfl,hb⟩;refine ⟨_,rfl,?_⟩;have n0_:=Aside0.mk (below_step (by repeat (first|(with_reducible first|exact HB.out|apply below_alloc|apply pw_below_drewN|apply below_drew1)|exact HB.out)) hb);clear HB;have HB:=n0_;clear n0_;(try clear hb);(try clear hb2);(try clear hk);(try clear hi))|((with_reducible refine gate_callee (f:=109) rfl ?_);refine goesL_ (some 16) rfl rfl Try.func109 (by kernel_rfl) rfl #[.int .i64 a0,.int .i64 a1,.string t661,.slice A3 l3.length c3] rfl (by (try simp only [List.map_toArray,List.map_cons,List.map_nil]);first|done|rfl|(simp only [List.length_drop,List.length_take];rfl)) ?_;(with_reducible refine (merkle_folds.calls a0 a1 t661 _ _ l3 t662 _ ?side1 ?side2 A6.out).mono ?_);(case side1=>repeat (first|exact (Kd.C_below HR3.out HB.out)|(with_reducible refine Kd.C_alloc ?_ _)|(with_reducible refine Kd.C_drewN ?_ _)|(with_reducible refine Kd.C_drew ?_)));(case side2=>exact HC3.out);rintro e w19 ⟨rfl,hb⟩;refine ⟨_,rfl,?_⟩;have n0_:=Aside0.mk (below_step (by repeat (first|(with_reducible first|exact HB.out|apply below_alloc|apply pw_below_drewN|apply below_drew1)|exact HB.out)) hb);clear HB;have HB:=n0_;clear n0_;(try clear hb);(try clear hb2);(try clear hk);(try clear hi)))
  go_ret
  exact ⟨_,by first|rfl|(simp [errW_none,errW_some] <;> rfl)|(simp [*,errW_none,errW_some] <;> rfl),by first|exact Kd.R_nil _ _ _ _ _|exact Kd.N_nil _ _ _ _ _|exact Kd.V_nil _ _ _ _ _|exact Kd.Q_nil _ _ _ _ _|exact Kd.S_nil _ _ _ _ _,by repeat (first|(with_reducible first|exact HB.out|apply below_alloc|apply pw_below_drewN|apply below_drew1)|exact HB.out)⟩
end Go.Proofs.Ytelcaepenfjloaa.Print
/-! #### Pr82 -/
namespace Go.Proofs.Ytelcaepenfjloaa.Print
open Go.RowKit Go.Proofs.YtelcaepenfjloaaW.PrintWords Go.Proofs.YtelcaepenfjloaaW.PrintLast Go.Proofs.YtelcaepenfjloaaW.PrintMore
attribute [local go_sem] max2_int min2_int max_two min_two max_three min_three max_four min_four
set_option linter.unusedVariables false
set_option linter.unusedSimpArgs false
/-! ### mosaicref03_Road: function 82 -/
def mosaicref03_Road.l0:Nat→List ByteArray→Int→ByteArray→List ByteArray→Option (List ByteArray)
 | 0,_,_,_,_=>none
 | k+1,x10,x12,x684000,x684001=>if x12 < (x684001.length:Int) then (if 0≤x12 then (if x10.length < 8796093022208 then (mosaicref03_Road.l0 k (x10 ++ [rdOf ByteArray.empty x684001 x12]) (wrap64 (x12+1)) x684000 x684001) else (none)) else (none)) else (some x10)
def mosaicref03_Road.f (k:Nat) (a0:Int) (a1:Int) (a2:ByteArray) (l3:List ByteArray):Option (List ByteArray):=(mosaicref03_LeafText.f a2).bind fun t672=>((mosaicref01_Sum.f k t672).bind fun t673=>((mosaicref03_folds.f k a0 a1 t673 l3).bind fun t674=>(if t674=0 then ((mosaicref03_LeafText.f a2).bind fun t675=>((mosaicref03_climb.f k a0 a1 t673 l3).bind fun bt679=>(mosaicref03_Road.l0 k (([t675]:List ByteArray)) 0 bt679.1 bt679.2))) else (some ([]:List ByteArray)))))
theorem mosaicref03_Road.mono_l:∀ k,(∀ y0 y1 y2 y3,LeO (mosaicref03_Road.l0 k y0 y1 y2 y3) (mosaicref03_Road.l0 (k+1) y0 y1 y2 y3))
 | 0=>fun _ _ _ _ r h=>by simp [mosaicref03_Road.l0] at h
 | k+1=>by
  have ih0:=mosaicref03_Road.mono_l k
  ·
   intro y0 y1 y2 y3
   unfold mosaicref03_Road.l0
   repeat' first
   | (with_reducible exact ih0 _ _ _ _)
   | (with_reducible exact mosaicref01_Sum.mono _ _)
   | (with_reducible exact mosaicref03_climb.mono _ _ _ _ _)
   | (with_reducible exact mosaicref03_folds.mono _ _ _ _ _)
   | (with_reducible exact LeO.refl _)
   | (with_reducible exact LeO.none _)
   | (with_reducible refine LeO.ite ?_ ?_)
   | (with_reducible refine LeO.bind ?_ (fun _=>?_))
   | exact ih0 _ _ _ _
   | exact mosaicref01_Sum.mono _ _
   | exact mosaicref03_climb.mono _ _ _ _ _
   | exact mosaicref03_folds.mono _ _ _ _ _
   | exact LeO.none _
   | refine LeO.ite ?_ ?_
   | refine LeO.bind ?_ (fun _=>?_)
theorem mosaicref03_Road.mono:∀ a0 a1 a2 a3 k,LeO (mosaicref03_Road.f k a0 a1 a2 a3) (mosaicref03_Road.f (k+1) a0 a1 a2 a3):=by
 intro a0 a1 a2 a3 k
 have ih0:=mosaicref03_Road.mono_l k
 unfold mosaicref03_Road.f
 repeat' first
   | (with_reducible exact ih0 _ _ _ _)
   | (with_reducible exact mosaicref01_Sum.mono _ _)
   | (with_reducible exact mosaicref03_climb.mono _ _ _ _ _)
   | (with_reducible exact mosaicref03_folds.mono _ _ _ _ _)
   | (with_reducible exact LeO.refl _)
   | (with_reducible exact LeO.none _)
   | (with_reducible refine LeO.ite ?_ ?_)
   | (with_reducible refine LeO.bind ?_ (fun _=>?_))
   | exact ih0 _ _ _ _
   | exact mosaicref01_Sum.mono _ _
   | exact mosaicref03_climb.mono _ _ _ _ _
   | exact mosaicref03_folds.mono _ _ _ _ _
   | exact LeO.none _
   | refine LeO.ite ?_ ?_
   | refine LeO.bind ?_ (fun _=>?_)
set_option maxHeartbeats 8000000 in
set_option maxRecDepth 100000 in
theorem mosaicref03_Road.calls (k:Nat) (a0:Int) (a1:Int) (a2:ByteArray) (A3:Option Addr) (c3:Nat) (l3:List ByteArray) (r:List ByteArray) (w:World) (hr3:Kd.C Kd.string w A3 l3.length l3) (hc3:l3.length≤c3) (h:mosaicref03_Road.f k a0 a1 a2 l3=some r) :
  Calls Try.prog 82 #[.int .i64 a0,.int .i64 a1,.string a2,.slice A3 l3.length c3] w fun e w'=>∃ v0_:Value,e=.returned (v0_)∧Kd.R Kd.string 9 w' w.heap.size (fun _=>True) v0_ r∧Below w.heap.size w w':=by
 have hu142:=Try.underlying142
 have HR3:=Aside0.mk hr3
 have HC3:=Aside0.mk hc3
 clear hr3 hc3
 have HB:=Aside0.mk (Below.refl w.heap.size w)
 have H:((mosaicref03_LeafText.f a2).bind fun t672=>((mosaicref01_Sum.f k t672).bind fun t673=>((mosaicref03_folds.f k a0 a1 t673 l3).bind fun t674=>(if t674=0 then ((mosaicref03_LeafText.f a2).bind fun t675=>((mosaicref03_climb.f k a0 a1 t673 l3).bind fun bt679=>(mosaicref03_Road.l0 k (([t675]:List ByteArray)) 0 bt679.1 bt679.2))) else (some ([]:List ByteArray))))))=some r:=h
 clear h
 replace H:=Option.bind_eq_some_iff.mp H
 obtain ⟨t672,A50,H⟩:=H
 replace H:((mosaicref01_Sum.f k t672).bind fun t673=>((mosaicref03_folds.f k a0 a1 t673 l3).bind fun t674=>(if t674=0 then ((mosaicref03_LeafText.f a2).bind fun t675=>((mosaicref03_climb.f k a0 a1 t673 l3).bind fun bt679=>(mosaicref03_Road.l0 k (([t675]:List ByteArray)) 0 bt679.1 bt679.2))) else (some ([]:List ByteArray)))))=some r:=H
 have A5:=Aside0.mk A50
 clear A50
 replace H:=Option.bind_eq_some_iff.mp H
 obtain ⟨t673,A60,H⟩:=H
 replace H:((mosaicref03_folds.f k a0 a1 t673 l3).bind fun t674=>(if t674=0 then ((mosaicref03_LeafText.f a2).bind fun t675=>((mosaicref03_climb.f k a0 a1 t673 l3).bind fun bt679=>(mosaicref03_Road.l0 k (([t675]:List ByteArray)) 0 bt679.1 bt679.2))) else (some ([]:List ByteArray))))=some r:=H
 have A6:=Aside0.mk A60
 clear A60
 replace H:=Option.bind_eq_some_iff.mp H
 obtain ⟨t674,A70,H⟩:=H
 replace H:(if t674=0 then ((mosaicref03_LeafText.f a2).bind fun t675=>((mosaicref03_climb.f k a0 a1 t673 l3).bind fun bt679=>(mosaicref03_Road.l0 k (([t675]:List ByteArray)) 0 bt679.1 bt679.2))) else (some ([]:List ByteArray)))=some r:=H
 have A7:=Aside0.mk A70
 clear A70
 by_cases c8:t674=0
 ·
  rw [if_pos c8] at H
  have c8b0:(t674 == 0)=true:=beq_iff_eq.mpr c8
  have c8b1:(t674 != 0)=false:=bne_eq_false_iff_eq.mpr c8
  clear c8
  replace H:=Option.bind_eq_some_iff.mp H
  obtain ⟨t675,A90,H⟩:=H
  replace H:((mosaicref03_climb.f k a0 a1 t673 l3).bind fun bt679=>(mosaicref03_Road.l0 k (([t675]:List ByteArray)) 0 bt679.1 bt679.2))=some r:=H
  have A9:=Aside0.mk A90
  obtain rfl:t672=t675:=Option.some.inj (A5.out.symm.trans A9.out)
  clear A90
  obtain ⟨y676,hy676⟩:∃ y_:List ByteArray,y_=(([t672]:List ByteArray)):=⟨_,rfl⟩
  replace H:((mosaicref03_climb.f k a0 a1 t673 l3).bind fun bt679=>(mosaicref03_Road.l0 k y676 0 bt679.1 bt679.2))=some r:=by first|(rw [hy676];with_reducible exact H)|(have H2_:=(Option.bind_some _ _).symm.trans H;rw [hy676];with_reducible exact H2_)|(have H2_:=(Option.bind_some _ _).symm.trans H;with_reducible exact H2_)|with_reducible exact H|(rw [hy676];exact H)|exact H
  have Ny676:=Aside0.mk hy676
  clear hy676
  replace H:=Option.bind_eq_some_iff.mp H
  obtain ⟨⟨t679,t680⟩,A100,H⟩:=H
  replace H:(mosaicref03_Road.l0 k y676 0 t679 t680)=some r:=H
  have A10:=Aside0.mk A100
  clear A100
  have H':=Aside0.mk H
  clear H
  go_enter Try.func82,Try.ntmps82
  go_wp2_with (first|((with_reducible refine gate_callee (f:=49) rfl ?_);refine goesL_ (some 14) rfl rfl Try.func49 (by kernel_rfl) rfl #[.string a2] rfl (by (try simp only [List.map_toArray,List.map_cons,List.map_nil]);first|done|rfl|(simp only [List.length_drop,List.length_take];rfl)) ?_;(with_reducible refine (mosaicref03_LeafText.calls a2 t672 _ A5.out).mono ?_);rintro e w' ⟨rfl,⟨nd,rfl⟩⟩;refine ⟨_,rfl,?_⟩)|((with_reducible refine gate_callee (f:=27) rfl ?_);refine goesL_ (some 15) rfl rfl Try.func27 (by kernel_rfl) rfl #[.string t672] rfl (by (try simp only [List.map_toArray,List.map_cons,List.map_nil]);first|done|rfl|(simp only [List.length_drop,List.length_take];rfl)) ?_;(with_reducible refine (mosaicref01_Sum.calls k t672 t673 _ A6.out).mono ?_);rintro e w11 ⟨rfl,hb⟩;refine ⟨_,rfl,?_⟩;have n0_:=Aside0.mk (below_step (by repeat (first|(with_reducible first|exact HB.out|apply below_alloc|apply pw_below_drewN|apply below_drew1)|exact HB.out)) hb);clear HB;have HB:=n0_;clear n0_;(try clear hb);(try clear hb2);(try clear hk);(try clear hi))|((with_reducible refine gate_callee (f:=111) rfl ?_);refine goesL_ (some 20) rfl rfl Try.func111 (by kernel_rfl) rfl #[.int .i64 a0,.int .i64 a1,.string t673,.slice A3 l3.length c3] rfl (by (try simp only [List.map_toArray,List.map_cons,List.map_nil]);first|done|rfl|(simp only [List.length_drop,List.length_take];rfl)) ?_;(with_reducible refine (mosaicref03_folds.calls k a0 a1 t673 _ _ l3 t674 _ ?side1 ?side2 A7.out).mono ?_);(case side1=>repeat (first|exact (Kd.C_below HR3.out HB.out)|(with_reducible refine Kd.C_alloc ?_ _)|(with_reducible refine Kd.C_drewN ?_ _)|(with_reducible refine Kd.C_drew ?_)));(case side2=>exact HC3.out);rintro e w' ⟨rfl,⟨nd,rfl⟩⟩;refine ⟨_,rfl,?_⟩;(try (rw [drewN_self w11];generalize hq_:World.drewN w11 _=w11;have n0_:Aside0 (Below w.heap.size w w11):=⟨by rw [← hq_];exact (by repeat (first|(with_reducible first|exact HB.out|apply below_alloc|apply pw_below_drewN|apply below_drew1)|exact HB.out))⟩;clear HB hq_;have HB:=n0_;clear n0_)))|((with_reducible refine gate_callee (f:=49) rfl ?_);refine goesL_ (some 23) rfl rfl Try.func49 (by kernel_rfl) rfl #[.string a2] rfl (by (try simp only [List.map_toArray,List.map_cons,List.map_nil]);first|done|rfl|(simp only [List.length_drop,List.length_take];rfl)) ?_;(with_reducible refine (mosaicref03_LeafText.calls a2 t672 _ A9.out).mono ?_);rintro e w' ⟨rfl,⟨nd,rfl⟩⟩;refine ⟨_,rfl,?_⟩;(try (rw [drewN_self w11];generalize hq_:World.drewN w11 _=w11;have n0_:Aside0 (Below w.heap.size w w11):=⟨by rw [← hq_];exact (by repeat (first|(with_reducible first|exact HB.out|apply below_alloc|apply pw_below_drewN|apply below_drew1)|exact HB.out))⟩;clear HB hq_;have HB:=n0_;clear n0_)))|((with_reducible refine gate_dst (N:=24) rfl ?_);refine Kd.R_lit Kd.string _ 9 ?hg (N:=24) ?hd (xs:=([t672]:List ByteArray)) (inner:=[.string t672]) (ok:=fun _=>True) (okp:=fun _=>True) ?hr ?hp (fun _ hk=>hk) trivial (Below.refl _ _) (Nat.le_refl _) (by simp) ?_;(case hd=>rfl);(case hg=>rfl);(case hr=>first|(go_simp;done)|(go_simp;rfl));(case hp=>exact (Reps.one (show Kd.M Kd.string _ _ _ t672 [.string t672] from rfl) (Reps.none _ _)));intro v677 w12 ho13 hb hg_ hnew_;clear hg_ hnew_;(first|rw [← Ny676.out] at ho13|(simp only [Int.reduceToNat] at ho13;rw [← Ny676.out] at ho13));have n0_:=Aside0.mk (Kd.R_lower ho13 (below_size (by repeat (first|(with_reducible first|exact HB.out|apply below_alloc|apply pw_below_drewN|apply below_drew1)|exact HB.out))));have n1_:=Aside0.mk (below_step (by repeat (first|(with_reducible first|exact HB.out|apply below_alloc|apply pw_below_drewN|apply below_drew1)|exact HB.out)) hb);clear HB;have HO678:=n0_;have HB:=n1_;clear n0_ n1_;clear hb ho13)|((with_reducible refine gate_callee (f:=112) rfl ?_);refine goesL_ (some 29) rfl rfl Try.func112 (by kernel_rfl) rfl #[.int .i64 a0,.int .i64 a1,.string t673,.slice A3 l3.length c3] rfl (by (try simp only [List.map_toArray,List.map_cons,List.map_nil]);first|done|rfl|(simp only [List.length_drop,List.length_take];rfl)) ?_;(with_reducible refine (mosaicref03_climb.calls k a0 a1 t673 _ _ l3 t679 t680 _ ?side1 ?side2 A10.out).mono ?_);(case side1=>repeat (first|exact (Kd.C_below HR3.out HB.out)|(with_reducible refine Kd.C_alloc ?_ _)|(with_reducible refine Kd.C_drewN ?_ _)|(with_reducible refine Kd.C_drew ?_)));(case side2=>exact HC3.out);rintro e w14 ⟨v681,rfl,ho0,hb⟩;refine ⟨_,rfl,?_⟩;have n0_:=Aside0.mk (Kd.R_elder' (by (with_reducible repeat (first|apply Kd.R_alloc|apply Kd.R_drewN|apply Kd.R_drew));exact HO678.out) (Kd.R_base ho0) hb);have n1_:=Aside0.mk (Kd.R_lower (Kd.R_new' ho0 (Kd.R_lt (by (with_reducible repeat (first|apply Kd.R_alloc|apply Kd.R_drewN|apply Kd.R_drew));exact HO678.out))) (below_size (by repeat (first|(with_reducible first|exact HB.out|apply below_alloc|apply pw_below_drewN|apply below_drew1)|exact HB.out))));have n2_:=Aside0.mk (below_step (by repeat (first|(with_reducible first|exact HB.out|apply below_alloc|apply pw_below_drewN|apply below_drew1)|exact HB.out)) hb);clear HO678;clear HB;have HO678:=n0_;have HO682:=n1_;have HB:=n2_;clear n0_ n1_ n2_;(try clear hb);(try clear hb2);(try clear hk);(try clear hi);(try clear ho0))|((with_reducible refine gate_dst (N:=11) rfl ?_);refine box_event ?hg (N:=11) ?hd (cs:=#[.string (⟨#[]⟩:ByteArray),.slice none 0 0]) (t:=142) ?hr ?_;(case hd=>rfl);(case hg=>rfl);(case hr=>first|(go_simp;done)|(go_simp;rfl));intro gb683 hg w15 hbox hb;have n0_:=Aside0.mk (Kd.R_below (by (with_reducible repeat (first|apply Kd.R_alloc|apply Kd.R_drewN|apply Kd.R_drew));exact HO678.out) hb);have n1_:=Aside0.mk (Kd.R_below (by (with_reducible repeat (first|apply Kd.R_alloc|apply Kd.R_drewN|apply Kd.R_drew));exact HO682.out) hb);have n2_:=Aside0.mk (below_step (by repeat (first|(with_reducible first|exact HB.out|apply below_alloc|apply pw_below_drewN|apply below_drew1)|exact HB.out)) hb);have n3_:=Aside0.mk (hbox);have n4_:=Aside0.mk ((by rw [hg];exact (below_size (by repeat (first|(with_reducible first|exact HB.out|apply below_alloc|apply pw_below_drewN|apply below_drew1)|exact HB.out))):w.heap.size≤gb683));have n5_:=Aside0.mk ((by rw [hg];exact (below_size (by repeat (first|(with_reducible first|exact HB.out|apply below_alloc|apply pw_below_drewN|apply below_drew1)|exact HB.out))):w.heap.size≤gb683));clear HO678;clear HO682;clear HB;have HO678:=n0_;have HO682:=n1_;have HB:=n2_;have BK683:=n3_;have GW683:=n4_;have GE683:=n5_;clear n0_ n1_ n2_ n3_ n4_ n5_;clear hb hbox hg;have hcz16_0:w15.cell? ⟨gb683,0,none⟩=some (.string (⟨#[]⟩:ByteArray)):=(blk_cell BK683.out 0).trans rfl;have hcz16_1:w15.cell? ⟨gb683,1,none⟩=some (.slice none 0 0):=(blk_cell BK683.out 1).trans rfl;have hfz16_0:=blk_frozen BK683.out 0;have hfz16_1:=blk_frozen BK683.out 1;obtain ⟨Ao17,co17,eo17⟩:=Kd.R_slice HO682.out;subst eo17))
  go_loopg [10,12] k (fun kq v10 v12 w'=>∃ (x10_1:List ByteArray) (x12_1:Int),v12=.int .i64 x12_1∧Aside0 (mosaicref03_Road.l0 kq x10_1 x12_1 t679 t680=some r)∧Aside0 (kq≤k)∧Aside0 (Kd.R Kd.string 9 w' w.heap.size (fun k_=>some k_≠((.slice Ao17 t680.length co17):Value).ownBlock) v10 x10_1)∧Aside0 (Kd.R Kd.string 9 w' w.heap.size (fun k_=>some k_≠(v10:Value).ownBlock) (.slice Ao17 t680.length co17) t680)∧Aside0 (w'.heap[gb683]?=some (.cells #[.string t679,(.slice Ao17 t680.length co17)] 142 (0,0)))∧Aside0 (Below w.heap.size w w'))
  case atStart=>exact ⟨(y676),(0),(by first|rfl|(simp;done)|(simp [*];done)),H',⟨Nat.le_refl _⟩,⟨by (with_reducible repeat (first|apply Kd.R_alloc|apply Kd.R_drewN|apply Kd.R_drew));exact Kd.R_mono (Kd.R_far (p:=⟨gb683,1,none⟩) (Kd.R_far (p:=⟨gb683,0,none⟩) (Kd.R_types HO678.out BK683.out (by decide)) (fun _ hk=>hk.2) (.string t679)) (fun _ hk=>hk.2) (.slice Ao17 t680.length co17)) (fun _ hk=>hk.1.2)⟩,⟨by (with_reducible repeat (first|apply Kd.R_alloc|apply Kd.R_drewN|apply Kd.R_drew));exact Kd.R_mono (Kd.R_far (p:=⟨gb683,1,none⟩) (Kd.R_far (p:=⟨gb683,0,none⟩) (Kd.R_types HO682.out BK683.out (by decide)) (fun _ hk=>hk.2) (.string t679)) (fun _ hk=>hk.2) (.slice Ao17 t680.length co17)) (fun _ hk=>hk.1.2)⟩,⟨by (with_reducible repeat (first|refine blk_drewN ?_ _|refine blk_drew ?_|refine blk_alloc ?_ _));refine blk_put (cs:=#[.string t679,.slice none 0 0]) ?_ 1 _ rfl;(with_reducible repeat (first|refine blk_drewN ?_ _|refine blk_drew ?_|refine blk_alloc ?_ _));refine blk_put (cs:=#[.string (⟨#[]⟩:ByteArray),.slice none 0 0]) ?_ 0 _ rfl;(with_reducible repeat (first|refine blk_drewN ?_ _|refine blk_drew ?_|refine blk_alloc ?_ _));exact BK683.out⟩,⟨by repeat (first|(with_reducible first|exact HB.out|apply below_alloc|apply pw_below_drewN|apply below_drew1|refine below_set ?_ GE683.out)|exact HB.out)⟩⟩
  case round =>
   clear H'
   try clear c1
   try clear c2
   try clear p2
   try clear c3
   try clear c4
   try clear c8
   try clear c8b0
   try clear c8b1
   try clear c11
   try clear hcz16_0
   try clear hcz16_1
   try clear hfz16_0
   try clear hfz16_1
   obtain ⟨x10_1,x12_1,rfl,HA,HK1,HO_10,HO_684001,BK683,HB⟩:=hrel
   cases gk with
   | zero=>exact absurd HA.out (by simp [mosaicref03_Road.l0])
   | succ k1 =>
    have H:=HA.out
    clear HA
    simp only [mosaicref03_Road.l0] at H
    by_cases c18:x12_1 < (t680.length:Int)
    ·
     rw [if_pos c18] at H
     have c18b0:decide (x12_1 < (t680.length:Int))=true:=decide_eq_true c18
     clear c18
     by_cases c19:0≤x12_1
     ·
      rw [if_pos c19] at H
      have c19b0:decide (0≤x12_1)=true:=decide_eq_true c19
      clear c19
      by_cases c20:x10_1.length < 8796093022208
      ·
       rw [if_pos c20] at H
       have LMc20:=Aside0.mk c20
       clear c20
       obtain ⟨y685,hy685⟩:∃ y_:List ByteArray,y_=(x10_1 ++ [rdOf ByteArray.empty t680 x12_1]):=⟨_,rfl⟩
       replace H:(mosaicref03_Road.l0 k1 y685 (wrap64 (x12_1+1)) t679 t680)=some r:=by first|(rw [hy685];with_reducible exact H)|(have H2_:=(Option.bind_some _ _).symm.trans H;rw [hy685];with_reducible exact H2_)|(have H2_:=(Option.bind_some _ _).symm.trans H;with_reducible exact H2_)|with_reducible exact H|(rw [hy685];exact H)|exact H
       have Ny685:=Aside0.mk hy685
       clear hy685
       have H':=Aside0.mk H
       clear H
       have hcz21_0:wr.cell? ⟨gb683,0,none⟩=some (.string t679):=(blk_cell BK683.out 0).trans rfl
       have hcz21_1:wr.cell? ⟨gb683,1,none⟩=some (.slice Ao17 t680.length co17):=(blk_cell BK683.out 1).trans rfl
       have hfz21_0:=blk_frozen BK683.out 0
       have hfz21_1:=blk_frozen BK683.out 1
       have p684:0≤(x12_1:Int):=of_decide_eq_true (by first|(with_reducible assumption)|assumption)
       have q684:x12_1 < (t680.length:Int):=of_decide_eq_true (by first|(with_reducible assumption)|assumption)
       obtain ⟨ad684,e684,hx684_0⟩:=Kd.at_string (Kd.R_reads' HO_684001.out).2.2 x12_1 p684 q684
       cases e684
       replace p684:=eq_true p684
       replace q684:=eq_true q684
       go_wp2_with (first|((with_reducible refine gate_builtin (b:=.append) (xs:=#[.tmp 37,.tmp 43]) rfl ?_);at_builtin;refine Kd.R_append Kd.string (w0:=w) w.heap.size rfl (.tmp 37) (.tmp 43) 39 9 (.string ⟨#[]⟩) 16 rfl Try.underlying39 info9 rfl (by decide) (by omega) u10 x10_1 (rdOf ByteArray.empty t680 x12_1) [.string (rdOf ByteArray.empty t680 x12_1)] (fun k_=>some k_≠(.slice (some ad684) t680.length co17:Value).ownBlock) (fun _=>False) rfl rfl ?aP (fun _ hk=>hk.elim) ?aF ?aO ?aB ?aS ?aL ?_;(case aP=>exact rfl);(case aB=>exact (by repeat (first|(with_reducible first|exact HB.out|apply below_alloc|apply pw_below_drewN|apply below_drew1|refine below_set ?_ GE683.out)|exact HB.out)));(case aF=>exact (fun k_ hk=>Kd.fresh' (Kd.R_lt (by (with_reducible repeat (first|apply Kd.R_alloc|apply Kd.R_drewN|apply Kd.R_drew));exact HO_684001.out)) k_ hk));(case aO=>exact (by (with_reducible repeat (first|apply Kd.R_alloc|apply Kd.R_drewN|apply Kd.R_drew));exact HO_10.out));(case aS=>exact (below_size (by repeat (first|(with_reducible first|exact HB.out|apply below_alloc|apply pw_below_drewN|apply below_drew1|refine below_set ?_ GE683.out)|exact HB.out))));(case aL=>have:=LMc20.out;omega);intro v686 w22 ho hb hg hat;rw [← Ny685.out] at ho;have n0_:=Aside0.mk (Kd.R_after (ok:=(fun _=>True)) (by (with_reducible repeat (first|apply Kd.R_alloc|apply Kd.R_drewN|apply Kd.R_drew));exact Kd.R_mono HO_684001.out (fun _ hk=>⟨trivial,hk⟩)) hg hat);have n1_:=Aside0.mk (blk_grown (g:=gb683) (o:=.cells #[.string t679,.slice (some ad684) t680.length co17] 142 (0,0)) (by (with_reducible repeat (first|refine blk_drewN ?_ _|refine blk_drew ?_|refine blk_alloc ?_ _));exact BK683.out) hg (Kd.R_ne HO_10.out BK683.out (by decide)));have n2_:=Aside0.mk (hb);have n3_:=Aside0.mk (ho);clear HO_684001;clear BK683;clear HB;clear HO_10;have HO_684001:=n0_;have BK683:=n1_;have HB:=n2_;have HO687:=n3_;clear n0_ n1_ n2_ n3_;clear ho hb hg hat))
       go_roundg k1
       case measure=>have:=HK1.out;omega
       case rel=>exact ⟨(y685),(wrap64 (x12_1+1)),(by first|rfl|(simp;done)|(simp [*];done)),H',⟨by have:=HK1.out;omega⟩,⟨by (with_reducible repeat (first|apply Kd.R_alloc|apply Kd.R_drewN|apply Kd.R_drew));exact HO687.out⟩,⟨by (with_reducible repeat (first|apply Kd.R_alloc|apply Kd.R_drewN|apply Kd.R_drew));exact Kd.R_mono HO_684001.out (fun _ hk=>hk.2)⟩,⟨by (with_reducible repeat (first|refine blk_drewN ?_ _|refine blk_drew ?_|refine blk_alloc ?_ _));exact BK683.out⟩,⟨by repeat (first|(with_reducible first|exact HB.out|apply below_alloc|apply pw_below_drewN|apply below_drew1|refine below_set ?_ GE683.out)|exact HB.out)⟩⟩
      ·
       rw [if_neg c20] at H
       exact absurd H (by simp)
     ·
      rw [if_neg c19] at H
      exact absurd H (by simp)
    ·
     rw [if_neg c18] at H
     have c18b0:decide (x12_1 < (t680.length:Int))=false:=decide_eq_false c18
     clear c18
     obtain rfl:=Option.some.inj H
     have hcz23_0:wr.cell? ⟨gb683,0,none⟩=some (.string t679):=(blk_cell BK683.out 0).trans rfl
     have hcz23_1:wr.cell? ⟨gb683,1,none⟩=some (.slice Ao17 t680.length co17):=(blk_cell BK683.out 1).trans rfl
     have hfz23_0:=blk_frozen BK683.out 0
     have hfz23_1:=blk_frozen BK683.out 1
     go_wp2
     go_ret
     exact ⟨_,by first|rfl|(simp [errW_none,errW_some] <;> rfl)|(simp [*,errW_none,errW_some] <;> rfl),by (with_reducible repeat (first|apply Kd.R_alloc|apply Kd.R_drewN|apply Kd.R_drew));exact Kd.R_mono HO_10.out (fun _ hk=>trivial),by repeat (first|(with_reducible first|exact HB.out|apply below_alloc|apply pw_below_drewN|apply below_drew1|refine below_set ?_ GE683.out)|exact HB.out)⟩
 ·
  rw [if_neg c8] at H
  have c8b0:(t674 == 0)=false:=beq_eq_false_iff_ne.mpr c8
  have c8b1:(t674 != 0)=true:=bne_iff_ne.mpr c8
  obtain rfl:=Option.some.inj H
  go_enter Try.func82,Try.ntmps82
  go_wp2_with (first|((with_reducible refine gate_callee (f:=49) rfl ?_);refine goesL_ (some 14) rfl rfl Try.func49 (by kernel_rfl) rfl #[.string a2] rfl (by (try simp only [List.map_toArray,List.map_cons,List.map_nil]);first|done|rfl|(simp only [List.length_drop,List.length_take];rfl)) ?_;(with_reducible refine (mosaicref03_LeafText.calls a2 t672 _ A5.out).mono ?_);rintro e w' ⟨rfl,⟨nd,rfl⟩⟩;refine ⟨_,rfl,?_⟩)|((with_reducible refine gate_callee (f:=27) rfl ?_);refine goesL_ (some 15) rfl rfl Try.func27 (by kernel_rfl) rfl #[.string t672] rfl (by (try simp only [List.map_toArray,List.map_cons,List.map_nil]);first|done|rfl|(simp only [List.length_drop,List.length_take];rfl)) ?_;(with_reducible refine (mosaicref01_Sum.calls k t672 t673 _ A6.out).mono ?_);rintro e w24 ⟨rfl,hb⟩;refine ⟨_,rfl,?_⟩;have n0_:=Aside0.mk (below_step (by repeat (first|(with_reducible first|exact HB.out|apply below_alloc|apply pw_below_drewN|apply below_drew1)|exact HB.out)) hb);clear HB;have HB:=n0_;clear n0_;(try clear hb);(try clear hb2);(try clear hk);(try clear hi))|((with_reducible refine gate_callee (f:=111) rfl ?_);refine goesL_ (some 20) rfl rfl Try.func111 (by kernel_rfl) rfl #[.int .i64 a0,.int .i64 a1,.string t673,.slice A3 l3.length c3] rfl (by (try simp only [List.map_toArray,List.map_cons,List.map_nil]);first|done|rfl|(simp only [List.length_drop,List.length_take];rfl)) ?_;(with_reducible refine (mosaicref03_folds.calls k a0 a1 t673 _ _ l3 t674 _ ?side1 ?side2 A7.out).mono ?_);(case side1=>repeat (first|exact (Kd.C_below HR3.out HB.out)|(with_reducible refine Kd.C_alloc ?_ _)|(with_reducible refine Kd.C_drewN ?_ _)|(with_reducible refine Kd.C_drew ?_)));(case side2=>exact HC3.out);rintro e w' ⟨rfl,⟨nd,rfl⟩⟩;refine ⟨_,rfl,?_⟩))
  go_ret
  exact ⟨_,by first|rfl|(simp [errW_none,errW_some] <;> rfl)|(simp [*,errW_none,errW_some] <;> rfl),by first|exact Kd.R_nil _ _ _ _ _|exact Kd.N_nil _ _ _ _ _|exact Kd.V_nil _ _ _ _ _|exact Kd.Q_nil _ _ _ _ _|exact Kd.S_nil _ _ _ _ _,by repeat (first|(with_reducible first|exact HB.out|apply below_alloc|apply pw_below_drewN|apply below_drew1)|exact HB.out)⟩
end Go.Proofs.Ytelcaepenfjloaa.Print
/-! #### PureMer3 -/
/- Folding a digest by a path: level by level it comes to what halves come to. -/
namespace Go.Proofs.Ytelcaepenfjloaa.Pure
open Go.RowKit Go.Proofs.Ytelcaepenfjloaa.Print Go.Proofs.YtelcaepenfjloaaW.PrintWords Go.Proofs.YtelcaepenfjloaaW.PrintLast Go.Proofs.YtelcaepenfjloaaW.PrintMore
set_option linter.unusedVariables false
set_option linter.unusedSimpArgs false
/-- The root, and the knots' texts that are summed, by halves: the path's last digest is the other half's. -/
def climbF:Nat→Nat→Nat→ByteArray→List ByteArray→ByteArray×List ByteArray
 | 0,_,_,d,_=>(d,[])
 | f+1,n,i,d,p =>
  if p.length=0 then (d,[])
  else
   let x:=p.getD (p.length - 1) ByteArray.empty
   let c:=if i < halfN n then climbF f (halfN n) i d (p.take (p.length - 1)) else climbF f (n - halfN n) (i - halfN n) d (p.take (p.length - 1))
   let t:=if i < halfN n then knotT c.1 x else knotT x c.1
   (shaSum t,c.2 ++ [t])
/-- As many rounds as the path is long. -/
def climbR (n i:Nat) (d:ByteArray) (p:List ByteArray):ByteArray×List ByteArray:=climbF p.length n i d p
theorem climbR_nil (n i:Nat) (d:ByteArray):climbR n i d []=(d,[]):=rfl
theorem climbR_left (n i:Nat) (d:ByteArray) (p:List ByteArray) (x:ByteArray) (h:i < halfN n) :
  climbR n i d (p ++ [x])=(shaSum (knotT (climbR (halfN n) i d p).1 x),(climbR (halfN n) i d p).2 ++ [knotT (climbR (halfN n) i d p).1 x]):=by
 have hl:(p ++ [x]).length=p.length+1:=by simp
 have e1:(p ++ [x]).getD ((p ++ [x]).length - 1) ByteArray.empty=x:=by
  rw [hl,Nat.add_sub_cancel]
  simp [List.getD_eq_getElem?_getD]
 have e2:(p ++ [x]).take ((p ++ [x]).length - 1)=p:=by
  rw [hl,Nat.add_sub_cancel]
  simp
 unfold climbR
 conv=>lhs;rw [hl,climbF,if_neg (by rw [hl];omega),e1,e2]
 simp only [if_pos h]
theorem climbR_right (n i:Nat) (d:ByteArray) (p:List ByteArray) (x:ByteArray) (h:¬ i < halfN n) :
  climbR n i d (p ++ [x])=(shaSum (knotT x (climbR (n - halfN n) (i - halfN n) d p).1),(climbR (n - halfN n) (i - halfN n) d p).2 ++ [knotT x (climbR (n - halfN n) (i - halfN n) d p).1]):=by
 have hl:(p ++ [x]).length=p.length+1:=by simp
 have e1:(p ++ [x]).getD ((p ++ [x]).length - 1) ByteArray.empty=x:=by
  rw [hl,Nat.add_sub_cancel]
  simp [List.getD_eq_getElem?_getD]
 have e2:(p ++ [x]).take ((p ++ [x]).length - 1)=p:=by
  rw [hl,Nat.add_sub_cancel]
  simp
 unfold climbR
 conv=>lhs;rw [hl,climbF,if_neg (by rw [hl];omega),e1,e2]
 simp only [if_neg h]
theorem snoc {α:Type} (l:List α) (k:Nat) (h:l.length=k+1):∃ p x,l=p ++ [x]∧p.length=k:=by
 refine ⟨l.take k,l[k],?_,by rw [List.length_take];omega⟩
 rw [← List.take_succ_eq_append_getElem (by omega),List.take_of_length_le (by omega)]
/-- The text of the first step. -/
def stepT (i:Nat) (d:ByteArray) (p:List ByteArray):ByteArray:=if i % 2=1 then knotT (p.getD 0 ByteArray.empty) d else knotT d (p.getD 0 ByteArray.empty)
theorem getD_snoc (p:List ByteArray) (x:ByteArray) (h:1≤p.length):(p ++ [x]).getD 0 ByteArray.empty=p.getD 0 ByteArray.empty:=by
 cases p with
 | nil=>simp at h
 | cons a p=>rfl
theorem drop_snoc (p:List ByteArray) (x:ByteArray) (h:1≤p.length):(p ++ [x]).drop 1=p.drop 1 ++ [x]:=by
 cases p with
 | nil=>simp at h
 | cons a p=>rfl
def upStep (n i:Nat) (d:ByteArray) (p:List ByteArray):ByteArray×List ByteArray :=
 if sib i < n then ((climbR ((n+1) / 2) (i / 2) (shaSum (stepT i d p)) (p.drop 1)).1,stepT i d p :: (climbR ((n+1) / 2) (i / 2) (shaSum (stepT i d p)) (p.drop 1)).2)
 else climbR ((n+1) / 2) (i / 2) d p
theorem depth_pos (n i:Nat) (h:2≤n):1≤depthM n i:=by
 by_cases c:i < halfN n
 ·
  rw [depthM_left n i h c]
  omega
 ·
  rw [depthM_right n i h c]
  omega
theorem climb_step (n:Nat):∀ (i:Nat) (d:ByteArray) (p:List ByteArray),2≤n→i < n→p.length=depthM n i→climbR n i d p=upStep n i d p:=by
 induction n using Nat.strongRecOn with
 | _ n ih =>
  intro i d p hn hi hp
  by_cases h2:n=2
  ·
   subst h2
   have hh:halfN 2=1:=halfN_2
   rcases (by omega:i=0∨i=1) with rfl|rfl
   ·
    rw [depthM_left 2 0 (by omega) (by omega),hh,depthM_one 1 0 (by omega)] at hp
    obtain ⟨x,rfl⟩:=list1 p (by omega)
    rw [show [x]=[] ++ [x] from rfl,climbR_left 2 0 d [] x (by omega)]
    unfold upStep
    rw [if_pos (by decide)]
    rfl
   ·
    rw [depthM_right 2 1 (by omega) (by omega),hh,depthM_one _ _ (by omega)] at hp
    obtain ⟨x,rfl⟩:=list1 p (by omega)
    rw [show [x]=[] ++ [x] from rfl,climbR_right 2 1 d [] x (by omega)]
    unfold upStep
    rw [if_pos (by decide)]
    rfl
  have hlt:=halfN_lt n hn
  have hps:=halfN_pos n
  have hge:=halfN_ge n
  have ht:=halfN_two n (by omega)
  have hp1:=halfN_pos ((n+1) / 2)
  by_cases hc:i < halfN n
  ·
   have hsk:sib i < halfN n:=by unfold sib;split <;> omega
   rw [depthM_left n i hn hc] at hp
   obtain ⟨q,x,rfl,hq⟩:=snoc p _ hp
   have hdp:=depth_pos (halfN n) i (by omega)
   have h1:=ih (halfN n) hlt i d q (by omega) hc hq
   unfold upStep at h1 ⊢
   rw [if_pos (by omega)] at h1 ⊢
   have hst:stepT i d (q ++ [x])=stepT i d q:=by unfold stepT;rw [getD_snoc q x (by omega)]
   rw [climbR_left n i d q x hc,hst,drop_snoc q x (by omega),climbR_left ((n+1) / 2) (i / 2) _ _ x (by omega),h1,show (halfN n+1) / 2=halfN ((n+1) / 2) by omega]
   rfl
  ·
   rw [depthM_right n i hn hc] at hp
   obtain ⟨q,x,rfl,hq⟩:=snoc p _ hp
   have hs:sib (i - halfN n)+halfN n=sib i:=by
    unfold sib
    split
    ·
     rw [if_pos (by omega)]
     omega
    ·
     rw [if_neg (by omega)]
     omega
   have hm:(i - halfN n) % 2=i % 2:=by omega
   rw [climbR_right n i d q x hc]
   by_cases h1:n - halfN n=1
   ·
    rw [h1,depthM_one 1 _ (by omega)] at hq
    have hq0:q=[]:=List.eq_nil_of_length_eq_zero hq
    subst hq0
    have e0:i - halfN n=0:=by omega
    unfold upStep
    have hsib:¬ sib i < n:=by
     rw [e0] at hs
     have:sib 0=1:=rfl
     omega
    rw [if_neg hsib,climbR_right ((n+1) / 2) (i / 2) d [] x (by omega),climbR_nil,climbR_nil]
   ·
    have hdp:=depth_pos (n - halfN n) (i - halfN n) (by omega)
    have h3:=ih (n - halfN n) (by omega) (i - halfN n) d q (by omega) (by omega) hq
    unfold upStep at h3 ⊢
    have hst:stepT (i - halfN n) d q=stepT i d (q ++ [x]):=by
     unfold stepT
     rw [getD_snoc q x (by omega),hm]
    have e1:(n - halfN n+1) / 2=(n+1) / 2 - halfN ((n+1) / 2):=by omega
    have e2:(i - halfN n) / 2=i / 2 - halfN ((n+1) / 2):=by omega
    by_cases hz:sib i < n
    ·
     rw [if_pos (by omega),hst,e1,e2] at h3
     rw [if_pos hz,drop_snoc q x (by omega),climbR_right ((n+1) / 2) (i / 2) _ _ x (by omega),h3]
     rfl
    ·
     rw [if_neg (by omega),e1,e2] at h3
     rw [if_neg hz,climbR_right ((n+1) / 2) (i / 2) _ _ x (by omega),h3]
/-! ### What the functions come to -/
theorem climbR_size (n i:Nat) (d:ByteArray) (p:List ByteArray) (h:d.size=32):(climbR n i d p).1.size=32:=by
 unfold climbR
 cases hp:p.length with
 | zero=>exact h
 | succ k =>
  rw [climbF]
  split
  ·
   exact h
  ·
   exact shaSum_size _
theorem climbR_length:∀ (k n i:Nat) (d:ByteArray) (p:List ByteArray),p.length=k→(climbR n i d p).2.length=k:=by
 intro k
 induction k with
 | zero =>
  intro n i d p hp
  have:p=[]:=List.eq_nil_of_length_eq_zero hp
  subst this
  rfl
 | succ k ih =>
  intro n i d p hp
  obtain ⟨q,x,rfl,hq⟩:=snoc p k hp
  by_cases c:i < halfN n
  ·
   rw [climbR_left n i d q x c]
   show ((climbR (halfN n) i d q).2 ++ [_]).length=_
   rw [List.length_append,ih _ _ _ q hq]
   rfl
  ·
   rw [climbR_right n i d q x c]
   show ((climbR (n - halfN n) (i - halfN n) d q).2 ++ [_]).length=_
   rw [List.length_append,ih _ _ _ q hq]
   rfl
theorem tmod2 (i:Nat):Int.tmod (i:Int) 2=((i % 2:Nat):Int):=by
 rw [Int.tmod_eq_emod_of_nonneg (by omega)]
 omega
theorem climb_l0 (n:Nat):∀ (i:Nat) (d:ByteArray) (p acc:List ByteArray),1≤n→n≤256→i < n→p.length=depthM n i→d.size=32→(∀ x∈p,x.size=32)→acc.length+n≤2000 →
  Ev (fun k=>merkle_climb.l0 k (n:Int) (i:Int) d p acc) ((climbR n i d p).1,acc ++ (climbR n i d p).2):=by
 induction n using Nat.strongRecOn with
 | _ n ih =>
  intro i d p acc h1 hn hi hp hd hs ha
  refine Ev.succ ?_
  simp only [merkle_climb.l0]
  by_cases h:n=1
  ·
   subst h
   rw [depthM_one 1 i (by omega)] at hp
   have hp0:p=[]:=List.eq_nil_of_length_eq_zero hp
   subst hp0
   refine Ev.neg (by omega) (Ev.some_ ?_)
   rw [climbR_nil,List.append_nil]
  have hsb:sib i≤i+1:=by unfold sib;split <;> omega
  have e1:wrap64 (Int.tdiv (wrap64 ((n:Int)+1)) 2)=(((n+1) / 2:Nat):Int):=by rw [wrap_succ n (by omega),tdiv2 _ (by omega)]
  rw [sib_xor i (by omega),e1,tdiv2 i (by omega),tmod2]
  have hst:=climb_step n i d p (by omega) hi hp
  have hds:=depth_step n i (by omega) hi
  unfold upStep at hst
  refine Ev.pos (by omega) ?_
  by_cases c:sib i < n
  ·
   rw [if_pos c] at hst hds
   have hp0:0 < p.length:=by omega
   have hx:=hs _ (getD_mem p 0 hp0)
   have r0:rdOf ByteArray.empty p 0=p.getD 0 ByteArray.empty:=rdOf_at p 0
   have hdl:(p.drop 1).length=depthM ((n+1) / 2) (i / 2):=by rw [List.length_drop];omega
   have hsd:∀ x∈p.drop 1,x.size=32:=fun x hx=>hs x (List.mem_of_mem_drop hx)
   have next:=ih ((n+1) / 2) (by omega) (i / 2) (shaSum (stepT i d p)) (p.drop 1) (acc ++ [stepT i d p]) (by omega) (by omega) (by omega) hdl (shaSum_size _) hsd (by simp;omega)
   have hres:((climbR n i d p).1,acc ++ (climbR n i d p).2)=((climbR ((n+1) / 2) (i / 2) (shaSum (stepT i d p)) (p.drop 1)).1,(acc ++ [stepT i d p]) ++ (climbR ((n+1) / 2) (i / 2) (shaSum (stepT i d p)) (p.drop 1)).2):=by
    rw [hst,List.append_assoc]
    rfl
   rw [hres,r0,knot_f d _ (by omega),knot_f _ d (by omega)]
   have z1:=knotT_size d (p.getD 0 ByteArray.empty)
   have z2:=knotT_size (p.getD 0 ByteArray.empty) d
   refine Ev.neg (by omega) (Ev.pos (by omega) (Ev.some_bind ?_))
   by_cases m:i % 2=1
   ·
    have e:stepT i d p=knotT (p.getD 0 ByteArray.empty) d:=if_pos m
    rw [e] at next ⊢
    exact Ev.pos (by omega) (Ev.some_bind (Ev.pos (by omega) (Ev.call (sha_f _ (by omega)) (Ev.pos (by omega) next))))
   ·
    have e:stepT i d p=knotT d (p.getD 0 ByteArray.empty):=if_neg m
    rw [e] at next ⊢
    exact Ev.neg (by omega) (Ev.pos (by omega) (Ev.call (sha_f _ (by omega)) (Ev.pos (by omega) next)))
  ·
   rw [if_neg c] at hst hds
   have next:=ih ((n+1) / 2) (by omega) (i / 2) d p acc (by omega) (by omega) (by omega) (by omega) hd hs (by omega)
   rw [hst]
   exact Ev.pos (by omega) next
theorem climb_ev (n i:Nat) (d:ByteArray) (p:List ByteArray) (h1:1≤n) (hn:n≤256) (hi:i < n) (hp:p.length=depthM n i) (hd:d.size=32) (hs:∀ x∈p,x.size=32) :
  Ev (fun k=>merkle_climb.f k (n:Int) (i:Int) d p) (climbR n i d p):=climb_l0 n i d p [] h1 hn hi hp hd hs (by simp;omega)
/-- The error of what can't be folded. -/
def foldsP (n i:Int) (d:ByteArray) (p:List ByteArray):Int :=
 if inP n i=true∧d.size=32 then (if (p.length:Int)=depthR n i∧∀ x∈p,x.size=32 then 0 else 3) else 1
theorem shortB_iff (x:ByteArray):shortB x=true↔x.size≠32:=by
 unfold shortB
 rw [bne_iff_ne]
 omega
theorem any_short (p:List ByteArray):p.any shortB=true↔¬ ∀ x∈p,x.size=32:=by
 rw [List.any_eq_true]
 constructor
 ·
  rintro ⟨x,hx,h⟩ hall
  exact (shortB_iff x).1 h (hall x hx)
 ·
  intro h
  apply Classical.byContradiction
  intro hn
  apply h
  intro x hx
  apply Classical.byContradiction
  intro h32
  exact hn ⟨x,hx,(shortB_iff x).2 h32⟩
theorem folds_f (n i:Int) (d:ByteArray) (p:List ByteArray):merkle_folds.f n i d p=some (foldsP n i d p):=by
 unfold merkle_folds.f foldsP
 rw [in_f]
 simp only [Option.bind_some]
 by_cases a:inP n i=true
 ·
  rw [if_pos a]
  by_cases b:d.size=32
  ·
   rw [if_neg (by rw [shortB_iff];simpa using b),if_pos (show inP n i=true∧d.size=32 from ⟨a,b⟩),Depth_f 11 n i]
   simp only [Option.bind_some]
   by_cases c:(p.length:Int)=depthR n i
   ·
    rw [if_pos c]
    by_cases e:∀ x∈p,x.size=32
    ·
     rw [if_neg (by rw [any_short];simpa using e),if_pos ⟨c,e⟩]
    ·
     rw [if_pos ((any_short p).2 e),if_neg (fun h=>e h.2)]
   ·
    rw [if_neg c,if_neg (fun h=>c h.1)]
  ·
   rw [if_pos ((shortB_iff d).2 b),if_neg (fun h=>b h.2)]
 ·
  rw [if_neg a,if_neg (fun h=>a h.1)]
theorem foldsP_zero {n i:Int} {d:ByteArray} {p:List ByteArray} (h:foldsP n i d p=0) :
  (1≤n.toNat∧n.toNat≤256∧i.toNat < n.toNat∧((n.toNat:Nat):Int)=n∧((i.toNat:Nat):Int)=i)∧p.length=depthM n.toNat i.toNat∧d.size=32∧∀ x∈p,x.size=32:=by
 unfold foldsP at h
 split at h
 ·
  rename_i hab
  split at h
  ·
   rename_i hcd
   have a:=of_decide_eq_true hab.1
   refine ⟨by omega,?_,hab.2,hcd.2⟩
   have:=hcd.1
   unfold depthR at this
   rw [if_pos hab.1] at this
   omega
  ·
   exact absurd h (by decide)
 ·
  exact absurd h (by decide)
/-- What climbing comes to. -/
def foldC (n i:Int) (d:ByteArray) (p:List ByteArray):ByteArray×List ByteArray:=climbR n.toNat i.toNat d p
theorem Fold_ev (n i:Int) (d:ByteArray) (p:List ByteArray):Ev (fun k=>merkle_Fold.f k n i d p) (if foldsP n i d p=0 then ((foldC n i d p).1,0) else ((⟨#[]⟩:ByteArray),foldsP n i d p)):=by
 unfold merkle_Fold.f
 refine Ev.call (folds_f n i d p) ?_
 by_cases h:foldsP n i d p=0
 ·
  obtain ⟨⟨a,b,c,e,f⟩,g,j,k⟩:=foldsP_zero h
  have:=climb_ev _ _ d p a b c g j k
  rw [e,f] at this
  rw [if_pos h]
  exact Ev.pos h (Ev.bind this (Ev.some_ rfl))
 ·
  rw [if_neg h]
  exact Ev.neg h (Ev.some_ rfl)
def climbP (n i:Int) (d:ByteArray) (p:List ByteArray):List ByteArray:=if foldsP n i d p=0 then (foldC n i d p).2 else []
theorem Climb_ev (n i:Int) (d:ByteArray) (p:List ByteArray):Ev (fun k=>merkle_Climb.f k n i d p) (climbP n i d p):=by
 unfold merkle_Climb.f climbP
 refine Ev.call (folds_f n i d p) ?_
 by_cases h:foldsP n i d p=0
 ·
  obtain ⟨⟨a,b,c,e,f⟩,g,j,k⟩:=foldsP_zero h
  have:=climb_ev _ _ d p a b c g j k
  rw [e,f] at this
  rw [if_pos h]
  exact Ev.pos h (Ev.bind this (Ev.some_ rfl))
 ·
  rw [if_neg h]
  exact Ev.neg h (Ev.some_ rfl)
theorem Check_ev (r:ByteArray) (n i:Int) (d:ByteArray) (p:List ByteArray):Ev (fun k=>merkle_Check.f k r n i d p) (decide (foldsP n i d p=0∧(foldC n i d p).1=r)):=by
 unfold merkle_Check.f
 refine Ev.bind (Fold_ev n i d p) ?_
 by_cases h:foldsP n i d p=0
 ·
  rw [if_pos h]
  refine Ev.pos rfl (Ev.some_ ?_)
  by_cases c:(foldC n i d p).1=r
  ·
   rw [decide_eq_true ⟨h,c⟩,beq_iff_eq]
   rw [c]
  ·
   rw [decide_eq_false (fun x=>c x.2),beq_eq_false_iff_ne]
   intro e
   apply c
   rw [Go.ByteArray.toList_eq,Go.ByteArray.toList_eq] at e
   exact ByteArray.ext (Array.toList_inj.1 e)
 ·
  rw [if_neg h,decide_eq_false (fun x=>h x.1)]
  exact Ev.neg h (Ev.some_ rfl)
theorem foldC_length (n i:Int) (d:ByteArray) (p:List ByteArray):(foldC n i d p).2.length=p.length:=climbR_length _ _ _ _ _ rfl
end Go.Proofs.Ytelcaepenfjloaa.Pure
/-! #### Pr108 -/
namespace Go.Proofs.Ytelcaepenfjloaa.Print
open Go.RowKit Go.Proofs.YtelcaepenfjloaaW.PrintWords Go.Proofs.YtelcaepenfjloaaW.PrintLast Go.Proofs.YtelcaepenfjloaaW.PrintMore
attribute [local go_sem] max2_int min2_int max_two min_two max_three min_three max_four min_four
set_option linter.unusedVariables false
set_option linter.unusedSimpArgs false
/-! ### mosaicref03_texts: function 108 -/
mutual
def mosaicref03_texts.l0:Nat→List ByteArray→Int→List ByteArray→List ByteArray→Int→Option (List ByteArray)
 | 0,_,_,_,_,_=>none
 | k+1,x0,x3,x4,x5,x6=>if x6 < (x5.length:Int) then (if 0≤x6 then (if x4.length < 8796093022208 then (mosaicref03_texts.l0 k x0 x3 (x4 ++ [rdOf ByteArray.empty x5 x6]) x5 (wrap64 (x6+1))) else (none)) else (none)) else (if 0≤x3 then (if x3≤(x0.length:Int) then ((mosaicref03_Top.f k (x0.take (x3:Int).toNat)).bind fun t562=>((mosaicref03_Top.f k (x0.drop (x3:Int).toNat)).bind fun t564=>((mosaicref03_KnotText.f t562 t564).bind fun t565=>(if x4.length < 8796093022208 then (some (x4 ++ [t565])) else (none))))) else (none)) else (none))
def mosaicref03_texts.f:Nat→List ByteArray→Option (List ByteArray)
 | 0,_=>none
 | k+1,l0=>if (l0.length:Int)=1 then (if 0 < (l0.length:Int) then ((mosaicref03_LeafText.f (rdOf ByteArray.empty l0 0)).bind fun t544=>(some (([t544]:List ByteArray)))) else (none)) else ((mosaicref03_half.f k (l0.length:Int)).bind fun t548=>(if 0≤t548 then (if t548≤(l0.length:Int) then ((mosaicref03_texts.f k (l0.take (t548:Int).toNat)).bind fun t550=>((mosaicref03_texts.f k (l0.drop (t548:Int).toNat)).bind fun t554=>(mosaicref03_texts.l0 k l0 t548 t550 t554 0))) else (none)) else (none)))
end
theorem mosaicref03_texts.mono_l:∀ k,(∀ y0,LeO (mosaicref03_texts.f k y0) (mosaicref03_texts.f (k+1) y0))∧(∀ y0 y1 y2 y3 y4,LeO (mosaicref03_texts.l0 k y0 y1 y2 y3 y4) (mosaicref03_texts.l0 (k+1) y0 y1 y2 y3 y4))
 | 0=>⟨fun _ r h=>by simp [mosaicref03_texts.f] at h,fun _ _ _ _ _ r h=>by simp [mosaicref03_texts.l0] at h⟩
 | k+1=>by
  obtain ⟨ih0,ih1⟩:=mosaicref03_texts.mono_l k
  refine ⟨?_,?_⟩
  ·
   intro y0
   unfold mosaicref03_texts.f
   repeat' first
   | (with_reducible exact ih0 _)
   | (with_reducible exact ih1 _ _ _ _ _)
   | (with_reducible exact mosaicref03_Top.mono _ _)
   | (with_reducible exact mosaicref03_half.mono _ _)
   | (with_reducible exact LeO.refl _)
   | (with_reducible exact LeO.none _)
   | (with_reducible refine LeO.ite ?_ ?_)
   | (with_reducible refine LeO.bind ?_ (fun _=>?_))
   | exact ih0 _
   | exact ih1 _ _ _ _ _
   | exact mosaicref03_Top.mono _ _
   | exact mosaicref03_half.mono _ _
   | exact LeO.none _
   | refine LeO.ite ?_ ?_
   | refine LeO.bind ?_ (fun _=>?_)
  ·
   intro y0 y1 y2 y3 y4
   unfold mosaicref03_texts.l0
   repeat' first
   | (with_reducible exact ih0 _)
   | (with_reducible exact ih1 _ _ _ _ _)
   | (with_reducible exact mosaicref03_Top.mono _ _)
   | (with_reducible exact mosaicref03_half.mono _ _)
   | (with_reducible exact LeO.refl _)
   | (with_reducible exact LeO.none _)
   | (with_reducible refine LeO.ite ?_ ?_)
   | (with_reducible refine LeO.bind ?_ (fun _=>?_))
   | exact ih0 _
   | exact ih1 _ _ _ _ _
   | exact mosaicref03_Top.mono _ _
   | exact mosaicref03_half.mono _ _
   | exact LeO.none _
   | refine LeO.ite ?_ ?_
   | refine LeO.bind ?_ (fun _=>?_)
theorem mosaicref03_texts.mono:∀ a0 k,LeO (mosaicref03_texts.f k a0) (mosaicref03_texts.f (k+1) a0):=by
 intro a0 k
 obtain ⟨ih0,ih1⟩:=mosaicref03_texts.mono_l k
 exact ih0 a0
def mosaicref03_texts.T10:Bool×List (List Nat×List Nat):=(true,[([],[]),([],[]),([],[]),([1,2],[1,2]),([3],[3]),([],[]),([],[]),([5,6],[5,6]),([7,4],[7]),([4,8,8],[4,8]),([9],[9]),([0,10,9],[0,10]),([11,11,0,1,2,3,4,5,6,7,8,9,10,11],[0,11])])
def mosaicref03_texts.B10:List Nat:=[0,0,0,6,14,0,0,96,254,510,1022,2047,4095]
theorem mosaicref03_texts.tab10:rtab .any (opsOf Try.f108 10)=mosaicref03_texts.T10:=by kernel_rfl
theorem mosaicref03_texts.bits10:waitsOk mosaicref03_texts.T10.2 mosaicref03_texts.B10=true:=by kernel_rfl
set_option maxHeartbeats 8000000 in
set_option maxRecDepth 100000 in
theorem mosaicref03_texts.calls (k:Nat):∀ (A0:Option Addr) (c0:Nat) (l0:List ByteArray) (r:List ByteArray) (w:World) (hr0:Kd.C Kd.string w A0 l0.length l0) (hc0:l0.length≤c0) (h:mosaicref03_texts.f k l0=some r),
  Calls Try.prog 108 #[.slice A0 l0.length c0] w fun e w'=>∃ v0_:Value,e=.returned (v0_)∧Kd.R Kd.string 9 w' w.heap.size (fun _=>True) v0_ r∧Below w.heap.size w w':=by
 induction k using Nat.strongRecOn with
 | _ k ih =>
 intro A0 c0 l0 r w hr0 hc0 h
 cases k with
 | zero=>exact absurd h (by simp [mosaicref03_texts.f])
 | succ k =>
 simp only [mosaicref03_texts.f] at h
 have HR0:=Aside0.mk hr0
 have HC0:=Aside0.mk hc0
 clear hr0 hc0
 have HB:=Aside0.mk (Below.refl w.heap.size w)
 have H:(if (l0.length:Int)=1 then (if 0 < (l0.length:Int) then ((mosaicref03_LeafText.f (rdOf ByteArray.empty l0 0)).bind fun t544=>(some (([t544]:List ByteArray)))) else (none)) else ((mosaicref03_half.f k (l0.length:Int)).bind fun t548=>(if 0≤t548 then (if t548≤(l0.length:Int) then ((mosaicref03_texts.f k (l0.take (t548:Int).toNat)).bind fun t550=>((mosaicref03_texts.f k (l0.drop (t548:Int).toNat)).bind fun t554=>(mosaicref03_texts.l0 k l0 t548 t550 t554 0))) else (none)) else (none))))=some r:=h
 clear h
 by_cases c2:(l0.length:Int)=1
 ·
  rw [if_pos c2] at H
  have c2b0:((l0.length:Int) == 1)=true:=beq_iff_eq.mpr c2
  have c2b1:((l0.length:Int) != 1)=false:=bne_eq_false_iff_eq.mpr c2
  clear c2
  by_cases c3:0 < (l0.length:Int)
  ·
   rw [if_pos c3] at H
   have c3b0:decide (0 < (l0.length:Int))=true:=decide_eq_true c3
   have c3b1:decide (0 < l0.length)=true:=decide_eq_true (by omega)
   clear c3
   replace H:=Option.bind_eq_some_iff.mp H
   obtain ⟨t544,A40,H⟩:=H
   replace H:(some (([t544]:List ByteArray)))=some r:=H
   have A4:=Aside0.mk A40
   clear A40
   obtain ⟨y545,hy545⟩:∃ y_:List ByteArray,y_=(([t544]:List ByteArray)):=⟨_,rfl⟩
   replace H:(some y545)=some r:=by first|(rw [hy545];with_reducible exact H)|(have H2_:=(Option.bind_some _ _).symm.trans H;rw [hy545];with_reducible exact H2_)|(have H2_:=(Option.bind_some _ _).symm.trans H;with_reducible exact H2_)|with_reducible exact H|(rw [hy545];exact H)|exact H
   have Ny545:=Aside0.mk hy545
   clear hy545
   obtain rfl:=Option.some.inj H
   have p543:0≤(0:Int):=(by omega)
   have q543:0 < (l0.length:Int):=of_decide_eq_true (by first|(with_reducible assumption)|assumption)
   obtain ⟨ad543,e543,hx543_0⟩:=Kd.at_string HR0.out 0 p543 q543
   cases e543
   have qi543:(0 < l0.length)=True:=eq_true (by omega)
   (try rw [show ((0:Int)).toNat=0 from rfl] at hx543_0)
   (try rw [Addr.add_zero'] at hx543_0)
   replace p543:=eq_true p543
   replace q543:=eq_true q543
   go_enter Try.func108,Try.ntmps108
   go_wp2_with (first|((with_reducible refine gate_callee (f:=49) rfl ?_);refine goesL_ (some 13) rfl rfl Try.func49 (by kernel_rfl) rfl #[.string (rdOf ByteArray.empty l0 0)] rfl (by (try simp only [List.map_toArray,List.map_cons,List.map_nil]);first|done|rfl|(simp only [List.length_drop,List.length_take];rfl)) ?_;(with_reducible refine (mosaicref03_LeafText.calls (rdOf ByteArray.empty l0 0) t544 _ A4.out).mono ?_);rintro e w' ⟨rfl,⟨nd,rfl⟩⟩;refine ⟨_,rfl,?_⟩)|((with_reducible refine gate_dst (N:=14) rfl ?_);refine Kd.R_lit Kd.string _ 9 ?hg (N:=14) ?hd (xs:=([t544]:List ByteArray)) (inner:=[.string t544]) (ok:=fun _=>True) (okp:=fun _=>True) ?hr ?hp (fun _ hk=>hk) trivial (Below.refl _ _) (Nat.le_refl _) (by simp) ?_;(case hd=>rfl);(case hg=>rfl);(case hr=>first|(go_simp;done)|(go_simp;rfl));(case hp=>exact (Reps.one (show Kd.M Kd.string _ _ _ t544 [.string t544] from rfl) (Reps.none _ _)));intro v546 w5 ho6 hb hg_ hnew_;clear hg_ hnew_;(first|rw [← Ny545.out] at ho6|(simp only [Int.reduceToNat] at ho6;rw [← Ny545.out] at ho6));have n0_:=Aside0.mk (Kd.R_lower ho6 (below_size (by repeat (first|(with_reducible first|exact HB.out|apply below_alloc|apply pw_below_drewN|apply below_drew1)|exact HB.out))));have n1_:=Aside0.mk (below_step (by repeat (first|(with_reducible first|exact HB.out|apply below_alloc|apply pw_below_drewN|apply below_drew1)|exact HB.out)) hb);clear HB;have HO547:=n0_;have HB:=n1_;clear n0_ n1_;clear hb ho6))
   go_ret
   exact ⟨_,by first|rfl|(simp [errW_none,errW_some] <;> rfl)|(simp [*,errW_none,errW_some] <;> rfl),by (with_reducible repeat (first|apply Kd.R_alloc|apply Kd.R_drewN|apply Kd.R_drew));exact HO547.out,by repeat (first|(with_reducible first|exact HB.out|apply below_alloc|apply pw_below_drewN|apply below_drew1)|exact HB.out)⟩
  ·
   rw [if_neg c3] at H
   exact absurd H (by simp)
 ·
  rw [if_neg c2] at H
  have c2b0:((l0.length:Int) == 1)=false:=beq_eq_false_iff_ne.mpr c2
  have c2b1:((l0.length:Int) != 1)=true:=bne_iff_ne.mpr c2
  replace H:=Option.bind_eq_some_iff.mp H
  obtain ⟨t548,A70,H⟩:=H
  replace H:(if 0≤t548 then (if t548≤(l0.length:Int) then ((mosaicref03_texts.f k (l0.take (t548:Int).toNat)).bind fun t550=>((mosaicref03_texts.f k (l0.drop (t548:Int).toNat)).bind fun t554=>(mosaicref03_texts.l0 k l0 t548 t550 t554 0))) else (none)) else (none))=some r:=H
  have A7:=Aside0.mk A70
  clear A70
  by_cases c8:0≤t548
  ·
   rw [if_pos c8] at H
   have c8b0:=eq_true c8
   have c8b1:decide (0≤t548)=true:=decide_eq_true c8
   clear c8
   by_cases c9:t548≤(l0.length:Int)
   ·
    rw [if_pos c9] at H
    have c9b0:=eq_true c9
    have c9b1:decide (t548≤(l0.length:Int))=true:=decide_eq_true c9
    clear c9
    replace H:=Option.bind_eq_some_iff.mp H
    obtain ⟨t550,A100,H⟩:=H
    replace H:((mosaicref03_texts.f k (l0.drop (t548:Int).toNat)).bind fun t554=>(mosaicref03_texts.l0 k l0 t548 t550 t554 0))=some r:=H
    have A10:=Aside0.mk A100
    clear A100
    have c11b0:=eq_true (of_decide_eq_true (by first|(with_reducible assumption)|assumption):0≤t548)
    have c12b0:=eq_true (of_decide_eq_true (by first|(with_reducible assumption)|assumption):t548≤(l0.length:Int))
    replace H:=Option.bind_eq_some_iff.mp H
    obtain ⟨t554,A130,H⟩:=H
    replace H:(mosaicref03_texts.l0 k l0 t548 t550 t554 0)=some r:=H
    have A13:=Aside0.mk A130
    clear A130
    have H':=Aside0.mk H
    clear H
    go_enter Try.func108,Try.ntmps108
    go_wp2_with (first|((with_reducible refine gate_callee (f:=99) rfl ?_);refine goesL_ (some 17) rfl rfl Try.func99 (by kernel_rfl) rfl #[.int .i64 (l0.length:Int)] rfl (by (try simp only [List.map_toArray,List.map_cons,List.map_nil]);first|done|rfl|(simp only [List.length_drop,List.length_take];rfl)) ?_;(with_reducible refine (mosaicref03_half.calls k (l0.length:Int) t548 _ A7.out).mono ?_);rintro e w' ⟨rfl,⟨nd,rfl⟩⟩;refine ⟨_,rfl,?_⟩;obtain ⟨i014,hi014,_,hsz14,_⟩:=info_parts info9;obtain ⟨hcut14,hA14,hC14⟩:=print_take_of (P:=Try.prog) Value.string (⟨#[]⟩:ByteArray) 39 9 .i64 Try.underlying39 hi014 hsz14 A0 c0 l0 t548 (of_decide_eq_true (by first|(with_reducible assumption)|assumption)) (of_decide_eq_true (by first|(with_reducible assumption)|assumption)) HC0.out;have HR549:=Aside0.mk (Kd.C_of_reads (h1:=fun _=>rfl) (hA14 _ (Kd.reads_of_C HR0.out)));have HC549:=Aside0.mk hC14;clear hA14 hC14 hi014 hsz14)|((with_reducible refine gate_callee (f:=108) rfl ?_);refine goesL_ (some 21) rfl rfl Try.func108 (by kernel_rfl) rfl #[.slice A0 (l0.take (t548:Int).toNat).length c0] rfl (by (try simp only [List.map_toArray,List.map_cons,List.map_nil]);first|done|(rw [show (l0.take (t548:Int).toNat).length=t548.toNat from (by rw [List.length_take];have h_:(t548:Int)≤(l0.length:Int):=of_decide_eq_true (by first|(with_reducible assumption)|assumption);omega)] <;> rfl)|rfl|(simp only [List.length_drop,List.length_take];rfl)) ?_;(with_reducible refine (ih k (by omega) _ _ (l0.take (t548:Int).toNat) t550 _ ?side1 ?side2 A10.out).mono ?_);(case side1=>repeat (first|exact HR549.out|(with_reducible refine Kd.C_alloc ?_ _)|(with_reducible refine Kd.C_drewN ?_ _)|(with_reducible refine Kd.C_drew ?_)));(case side2=>exact HC549.out);rintro e w15 ⟨v551,rfl,ho0,hb⟩;refine ⟨_,rfl,?_⟩;have n0_:=Aside0.mk (Kd.R_lower ho0 (below_size (by repeat (first|(with_reducible first|exact HB.out|apply below_alloc|apply pw_below_drewN|apply below_drew1)|exact HB.out))));have n1_:=Aside0.mk (below_step (by repeat (first|(with_reducible first|exact HB.out|apply below_alloc|apply pw_below_drewN|apply below_drew1)|exact HB.out)) hb);clear HB;have HO552:=n0_;have HB:=n1_;clear n0_ n1_;(try clear hb);(try clear hb2);(try clear hk);(try clear hi);(try clear ho0);obtain ⟨i016,hi016,_,hsz16,_⟩:=info_parts info9;obtain ⟨A16,hcut16,hA16,hC16⟩:=print_drop_of (P:=Try.prog) Value.string (⟨#[]⟩:ByteArray) 39 9 .i64 Try.underlying39 hi016 hsz16 A0 c0 l0 t548 (of_decide_eq_true (by first|(with_reducible assumption)|assumption)) (of_decide_eq_true (by first|(with_reducible assumption)|assumption)) HC0.out;have HR553:=Aside0.mk (Kd.C_of_reads (h1:=fun _=>rfl) (hA16 _ (Kd.reads_of_C HR0.out)));have HC553:=Aside0.mk hC16;clear hA16 hC16 hi016 hsz16)|((with_reducible refine gate_callee (f:=108) rfl ?_);refine goesL_ (some 25) rfl rfl Try.func108 (by kernel_rfl) rfl #[.slice A16 (l0.drop (t548:Int).toNat).length (c0 - t548.toNat)] rfl (by (try simp only [List.map_toArray,List.map_cons,List.map_nil]);first|done|(rw [show (l0.drop (t548:Int).toNat).length=(l0.length - t548.toNat) from List.length_drop] <;> rfl)|rfl|(simp only [List.length_drop,List.length_take];rfl)) ?_;(with_reducible refine (ih k (by omega) _ _ (l0.drop (t548:Int).toNat) t554 _ ?side1 ?side2 A13.out).mono ?_);(case side1=>repeat (first|exact (Kd.C_below HR553.out HB.out)|(with_reducible refine Kd.C_alloc ?_ _)|(with_reducible refine Kd.C_drewN ?_ _)|(with_reducible refine Kd.C_drew ?_)));(case side2=>exact HC553.out);rintro e w17 ⟨v555,rfl,ho0,hb⟩;refine ⟨_,rfl,?_⟩;have n0_:=Aside0.mk (Kd.R_elder' (by (with_reducible repeat (first|apply Kd.R_alloc|apply Kd.R_drewN|apply Kd.R_drew));exact HO552.out) (Kd.R_base ho0) hb);have n1_:=Aside0.mk (Kd.R_lower (Kd.R_new' ho0 (Kd.R_lt (by (with_reducible repeat (first|apply Kd.R_alloc|apply Kd.R_drewN|apply Kd.R_drew));exact HO552.out))) (below_size (by repeat (first|(with_reducible first|exact HB.out|apply below_alloc|apply pw_below_drewN|apply below_drew1)|exact HB.out))));have n2_:=Aside0.mk (below_step (by repeat (first|(with_reducible first|exact HB.out|apply below_alloc|apply pw_below_drewN|apply below_drew1)|exact HB.out)) hb);clear HO552;clear HB;have HO552:=n0_;have HO556:=n1_;have HB:=n2_;clear n0_ n1_ n2_;(try clear hb);(try clear hb2);(try clear hk);(try clear hi);(try clear ho0)))
    go_loopg [4,6] k (fun kq v4 v6 w'=>∃ (x4_1:List ByteArray) (x6_1:Int),v6=.int .i64 x6_1∧Aside0 (mosaicref03_texts.l0 kq l0 t548 x4_1 t554 x6_1=some r)∧Aside0 (kq≤k)∧Aside0 (Kd.R Kd.string 9 w' w.heap.size (fun k_=>some k_≠(v555:Value).ownBlock) v4 x4_1)∧Aside0 (Kd.R Kd.string 9 w' w.heap.size (fun k_=>some k_≠(v4:Value).ownBlock) v555 t554)∧Aside0 (Below w.heap.size w w'))
    case atStart=>exact ⟨(t550),(0),(by first|rfl|(simp;done)|(simp [*];done)),H',⟨Nat.le_refl _⟩,⟨by (with_reducible repeat (first|apply Kd.R_alloc|apply Kd.R_drewN|apply Kd.R_drew));exact Kd.R_mono HO552.out (fun _ hk=>hk.2)⟩,⟨by (with_reducible repeat (first|apply Kd.R_alloc|apply Kd.R_drewN|apply Kd.R_drew));exact Kd.R_mono HO556.out (fun _ hk=>hk.2)⟩,⟨by repeat (first|(with_reducible first|exact HB.out|apply below_alloc|apply pw_below_drewN|apply below_drew1)|exact HB.out)⟩⟩
    case round =>
     clear H'
     try clear c1
     try clear c2
     try clear c2b0
     try clear c2b1
     try clear p2
     try clear c3
     try clear c3b0
     try clear c3b1
     try clear c4
     try clear p5
     try clear q5
     try clear hx5
     try clear qi5
     try clear c8
     try clear c8b0
     try clear c8b1
     try clear c9
     try clear c9b0
     try clear c9b1
     try clear c10
     try clear c11
     try clear c11b0
     try clear c12
     try clear c12b0
     try clear hx543_0
     try clear p543
     try clear q543
     obtain ⟨x4_1,x6_1,rfl,HA,HK1,HO_4,HO_5,HB⟩:=hrel
     cases gk with
     | zero=>exact absurd HA.out (by simp [mosaicref03_texts.l0])
     | succ k1 =>
      have H:=HA.out
      clear HA
      simp only [mosaicref03_texts.l0] at H
      by_cases c18:x6_1 < (t554.length:Int)
      ·
       rw [if_pos c18] at H
       have c18b0:decide (x6_1 < (t554.length:Int))=true:=decide_eq_true c18
       clear c18
       by_cases c19:0≤x6_1
       ·
        rw [if_pos c19] at H
        have c19b0:decide (0≤x6_1)=true:=decide_eq_true c19
        clear c19
        by_cases c20:x4_1.length < 8796093022208
        ·
         rw [if_pos c20] at H
         have LMc20:=Aside0.mk c20
         clear c20
         obtain ⟨y558,hy558⟩:∃ y_:List ByteArray,y_=(x4_1 ++ [rdOf ByteArray.empty t554 x6_1]):=⟨_,rfl⟩
         replace H:(mosaicref03_texts.l0 k1 l0 t548 y558 t554 (wrap64 (x6_1+1)))=some r:=by first|(rw [hy558];with_reducible exact H)|(have H2_:=(Option.bind_some _ _).symm.trans H;rw [hy558];with_reducible exact H2_)|(have H2_:=(Option.bind_some _ _).symm.trans H;with_reducible exact H2_)|with_reducible exact H|(rw [hy558];exact H)|exact H
         have Ny558:=Aside0.mk hy558
         clear hy558
         have H':=Aside0.mk H
         clear H
         obtain ⟨Ao21,co21,eo21⟩:=Kd.R_slice HO_5.out
         subst eo21
         have p557:0≤(x6_1:Int):=of_decide_eq_true (by first|(with_reducible assumption)|assumption)
         have q557:x6_1 < (t554.length:Int):=of_decide_eq_true (by first|(with_reducible assumption)|assumption)
         obtain ⟨ad557,e557,hx557_0⟩:=Kd.at_string (Kd.R_reads' HO_5.out).2.2 x6_1 p557 q557
         cases e557
         replace p557:=eq_true p557
         replace q557:=eq_true q557
         go_wp2_with (first|((with_reducible refine gate_builtin (b:=.append) (xs:=#[.tmp 32,.tmp 37]) rfl ?_);at_builtin;refine Kd.R_append Kd.string (w0:=w) w.heap.size rfl (.tmp 32) (.tmp 37) 39 9 (.string ⟨#[]⟩) 16 rfl Try.underlying39 info9 rfl (by decide) (by omega) u4 x4_1 (rdOf ByteArray.empty t554 x6_1) [.string (rdOf ByteArray.empty t554 x6_1)] (fun k_=>some k_≠(.slice (some ad557) t554.length co21:Value).ownBlock) (fun _=>False) rfl rfl ?aP (fun _ hk=>hk.elim) ?aF ?aO ?aB ?aS ?aL ?_;(case aP=>exact rfl);(case aB=>exact (by repeat (first|(with_reducible first|exact HB.out|apply below_alloc|apply pw_below_drewN|apply below_drew1)|exact HB.out)));(case aF=>exact (fun k_ hk=>Kd.fresh' (Kd.R_lt (by (with_reducible repeat (first|apply Kd.R_alloc|apply Kd.R_drewN|apply Kd.R_drew));exact HO_5.out)) k_ hk));(case aO=>exact (by (with_reducible repeat (first|apply Kd.R_alloc|apply Kd.R_drewN|apply Kd.R_drew));exact HO_4.out));(case aS=>exact (below_size (by repeat (first|(with_reducible first|exact HB.out|apply below_alloc|apply pw_below_drewN|apply below_drew1)|exact HB.out))));(case aL=>have:=LMc20.out;omega);intro v559 w22 ho hb hg hat;rw [← Ny558.out] at ho;have n0_:=Aside0.mk (Kd.R_after (ok:=(fun _=>True)) (by (with_reducible repeat (first|apply Kd.R_alloc|apply Kd.R_drewN|apply Kd.R_drew));exact Kd.R_mono HO_5.out (fun _ hk=>⟨trivial,hk⟩)) hg hat);have n1_:=Aside0.mk (hb);have n2_:=Aside0.mk (ho);clear HO_5;clear HB;clear HO_4;have HO_5:=n0_;have HB:=n1_;have HO560:=n2_;clear n0_ n1_ n2_;clear ho hb hg hat))
         go_roundg k1
         case measure=>have:=HK1.out;omega
         case rel=>exact ⟨(y558),(wrap64 (x6_1+1)),(by first|rfl|(simp;done)|(simp [*];done)),H',⟨by have:=HK1.out;omega⟩,⟨by (with_reducible repeat (first|apply Kd.R_alloc|apply Kd.R_drewN|apply Kd.R_drew));exact HO560.out⟩,⟨by (with_reducible repeat (first|apply Kd.R_alloc|apply Kd.R_drewN|apply Kd.R_drew));exact Kd.R_mono HO_5.out (fun _ hk=>hk.2)⟩,⟨by repeat (first|(with_reducible first|exact HB.out|apply below_alloc|apply pw_below_drewN|apply below_drew1)|exact HB.out)⟩⟩
        ·
         rw [if_neg c20] at H
         exact absurd H (by simp)
       ·
        rw [if_neg c19] at H
        exact absurd H (by simp)
      ·
       rw [if_neg c18] at H
       have c18b0:decide (x6_1 < (t554.length:Int))=false:=decide_eq_false c18
       clear c18
       by_cases c23:0≤t548
       ·
        rw [if_pos c23] at H
        have c23b0:=eq_true c23
        have c23b1:decide (0≤t548)=true:=decide_eq_true c23
        clear c23
        by_cases c24:t548≤(l0.length:Int)
        ·
         rw [if_pos c24] at H
         have c24b0:=eq_true c24
         have c24b1:decide (t548≤(l0.length:Int))=true:=decide_eq_true c24
         clear c24
         replace H:=Option.bind_eq_some_iff.mp H
         obtain ⟨t562,A250,H⟩:=H
         replace H:((mosaicref03_Top.f k1 (l0.drop (t548:Int).toNat)).bind fun t564=>((mosaicref03_KnotText.f t562 t564).bind fun t565=>(if x4_1.length < 8796093022208 then (some (x4_1 ++ [t565])) else (none))))=some r:=H
         have A25:=Aside0.mk A250
         clear A250
         have c26b0:=eq_true (of_decide_eq_true (by first|(with_reducible assumption)|assumption):0≤t548)
         have c27b0:=eq_true (of_decide_eq_true (by first|(with_reducible assumption)|assumption):t548≤(l0.length:Int))
         replace H:=Option.bind_eq_some_iff.mp H
         obtain ⟨t564,A280,H⟩:=H
         replace H:((mosaicref03_KnotText.f t562 t564).bind fun t565=>(if x4_1.length < 8796093022208 then (some (x4_1 ++ [t565])) else (none)))=some r:=H
         have A28:=Aside0.mk A280
         clear A280
         replace H:=Option.bind_eq_some_iff.mp H
         obtain ⟨t565,A290,H⟩:=H
         replace H:(if x4_1.length < 8796093022208 then (some (x4_1 ++ [t565])) else (none))=some r:=H
         have A29:=Aside0.mk A290
         clear A290
         by_cases c30:x4_1.length < 8796093022208
         ·
          rw [if_pos c30] at H
          have LMc30:=Aside0.mk c30
          clear c30
          obtain ⟨y566,hy566⟩:∃ y_:List ByteArray,y_=(x4_1 ++ [t565]):=⟨_,rfl⟩
          replace H:(some y566)=some r:=by first|(rw [hy566];with_reducible exact H)|(have H2_:=(Option.bind_some _ _).symm.trans H;rw [hy566];with_reducible exact H2_)|(have H2_:=(Option.bind_some _ _).symm.trans H;with_reducible exact H2_)|with_reducible exact H|(rw [hy566];exact H)|exact H
          have Ny566:=Aside0.mk hy566
          clear hy566
          obtain rfl:=Option.some.inj H
          obtain ⟨Ao31,co31,eo31⟩:=Kd.R_slice HO_5.out
          subst eo31
          try go_wp2
          have n0_:=Aside0.mk (Kd.R_drew HO_4.out)
          have n1_:=Aside0.mk (Kd.R_drew HO_5.out)
          have n2_:=Aside0.mk (below_drew1 HB.out)
          clear HO_4
          clear HO_5
          clear HB
          have HO_4:=n0_
          have HO_5:=n1_
          have HB:=n2_
          clear n0_ n1_ n2_
          obtain ⟨i033,hi033,_,hsz33,_⟩:=info_parts info9
          obtain ⟨hcut33,hA33,hC33⟩:=print_take_of (P:=Try.prog) Value.string (⟨#[]⟩:ByteArray) 39 9 .i64 Try.underlying39 hi033 hsz33 A0 c0 l0 t548 (of_decide_eq_true (by first|(with_reducible assumption)|assumption)) (of_decide_eq_true (by first|(with_reducible assumption)|assumption)) HC0.out
          have HR561:=Aside0.mk (Kd.C_of_reads (h1:=fun _=>rfl) (hA33 _ (Kd.reads_of_C HR0.out)))
          have HC561:=Aside0.mk hC33
          clear hA33 hC33 hi033 hsz33
          obtain ⟨i034,hi034,_,hsz34,_⟩:=info_parts info9
          obtain ⟨A34,hcut34,hA34,hC34⟩:=print_drop_of (P:=Try.prog) Value.string (⟨#[]⟩:ByteArray) 39 9 .i64 Try.underlying39 hi034 hsz34 A0 c0 l0 t548 (of_decide_eq_true (by first|(with_reducible assumption)|assumption)) (of_decide_eq_true (by first|(with_reducible assumption)|assumption)) HC0.out
          obtain rfl:A34=A16:=by have h_:=(hcut34 w).symm.trans (hcut16 w);simpa using h_
          have HR563:=Aside0.mk (Kd.C_of_reads (h1:=fun _=>rfl) (hA34 _ (Kd.reads_of_C HR0.out)))
          have HC563:=Aside0.mk hC34
          clear hA34 hC34 hi034 hsz34
          refine start_ (n:=13) (S:=fun w'=>True) (ds:=[]) #[false,false,false,false,false,false,false,false,false,false,false,false,false] (by kernel_rfl) rfl rfl trivial (fun hHeld=>?_);refine with_tabW mosaicref03_texts.tab10 mosaicref03_texts.bits10 (fun HT_ HW_=>?_)
          generalize wr.drew=w32 at HO_4 HO_5 HB HR561 HR563 hHeld ⊢
          refine pure_ (i:=0) (N:=some 39) (v:=?_) (a':=?_) #[true,false,false,false,false,false,false,false,false,false,false,false,false] rfl rfl (any_of HT_.out (by kernel_rfl)) (fun _ _ _ h=>h) (Or.inl ⟨by rfl,?_⟩) ?_ ?_
          rotate_left
          ·
           intro w'
           go_simp
           with_reducible rfl
          rotate_left
          ·
           simp only [Act.put,List.setIfInBounds_toArray,List.set_cons_zero,List.set_cons_succ,i64_w,i32_w]
           rfl
          refine pure_ (i:=1) (N:=some 40) (v:=?_) (a':=?_) #[true,true,false,false,false,false,false,false,false,false,false,false,false] rfl rfl (any_of HT_.out (by kernel_rfl)) (fun _ _ _ h=>h) (Or.inl ⟨by rfl,?_⟩) ?_ ?_
          rotate_left
          ·
           intro w'
           go_simp
           with_reducible rfl
          rotate_left
          ·
           simp only [Act.put,List.setIfInBounds_toArray,List.set_cons_zero,List.set_cons_succ,i64_w,i32_w]
           rfl
          refine pure_ (i:=2) (N:=some 41) (v:=?_) (a':=?_) #[true,true,true,false,false,false,false,false,false,false,false,false,false] rfl rfl (any_of HT_.out (by kernel_rfl)) (fun _ _ _ h=>h) (Or.inl ⟨by rfl,?_⟩) ?_ ?_
          rotate_left
          ·
           intro w'
           go_simp
           with_reducible rfl
          rotate_left
          ·
           simp only [Act.put,List.setIfInBounds_toArray,List.set_cons_zero,List.set_cons_succ,i64_w,i32_w]
           rfl
          refine pure_ (i:=3) (N:=some 42) (v:=?_) (a':=?_) #[true,true,true,true,false,false,false,false,false,false,false,false,false] rfl rfl (any_of HT_.out (by kernel_rfl)) (fun _ _ _ h=>h) (Or.inl ⟨by rfl,?_⟩) ?_ ?_
          rotate_left
          ·
           intro w'
           go_simp
           with_reducible rfl
          rotate_left
          ·
           simp only [Act.put,List.setIfInBounds_toArray,List.set_cons_zero,List.set_cons_succ,i64_w,i32_w]
           rfl
          refine pure_ (i:=5) (N:=some 44) (v:=?_) (a':=?_) #[true,true,true,true,false,true,false,false,false,false,false,false,false] rfl rfl (any_of HT_.out (by kernel_rfl)) (fun _ _ _ h=>h) (Or.inl ⟨by rfl,?_⟩) ?_ ?_
          rotate_left
          ·
           intro w'
           go_simp
           with_reducible rfl
          rotate_left
          ·
           simp only [Act.put,List.setIfInBounds_toArray,List.set_cons_zero,List.set_cons_succ,i64_w,i32_w]
           rfl
          refine pure_ (i:=6) (N:=some 45) (v:=?_) (a':=?_) #[true,true,true,true,false,true,true,false,false,false,false,false,false] rfl rfl (any_of HT_.out (by kernel_rfl)) (fun _ _ _ h=>h) (Or.inl ⟨by rfl,?_⟩) ?_ ?_
          rotate_left
          ·
           intro w'
           go_simp
           with_reducible rfl
          rotate_left
          ·
           simp only [Act.put,List.setIfInBounds_toArray,List.set_cons_zero,List.set_cons_succ,i64_w,i32_w]
           rfl
          refine pure_ (i:=7) (N:=some 46) (v:=?_) (a':=?_) #[true,true,true,true,false,true,true,true,false,false,false,false,false] rfl rfl (any_of HT_.out (by kernel_rfl)) (fun _ _ _ h=>h) (Or.inl ⟨by rfl,?_⟩) ?_ ?_
          rotate_left
          ·
           intro w'
           go_simp
           with_reducible rfl
          rotate_left
          ·
           simp only [Act.put,List.setIfInBounds_toArray,List.set_cons_zero,List.set_cons_succ,i64_w,i32_w]
           rfl
          refine one_ (i:=4) (N:=some 43) #[true,true,true,true,true,true,true,true,false,false,false,false,false] rfl rfl (one_of HT_.out (by kernel_rfl)) (by decide) (fun K hK=>?_)
          refine goes_ Try.func95 (by kernel_rfl) rfl #[.slice A0 (l0.take (t548:Int).toNat).length c0] (by rfl) rfl rfl (by (try simp only [List.map_toArray,List.map_cons,List.map_nil]);first|done|(rw [show (l0.take (t548:Int).toNat).length=t548.toNat from (by rw [List.length_take];have h_:(t548:Int)≤(l0.length:Int):=of_decide_eq_true (by first|(with_reducible assumption)|assumption);omega)] <;> rfl)|rfl|(simp only [List.length_drop,List.length_take];rfl)) ?_
          with_reducible refine (mosaicref03_Top.calls k1 _ _ (l0.take (t548:Int).toNat) t562 _ ?side1 ?side2 A25.out).mono ?_
          (case side1=>repeat (first|exact (Kd.C_below HR561.out HB.out)|(with_reducible refine Kd.C_alloc ?_ _)|(with_reducible refine Kd.C_drewN ?_ _)|(with_reducible refine Kd.C_drew ?_)))
          (case side2=>exact HC561.out)
          rintro e w35 ⟨rfl,hb⟩
          refine ⟨_,rfl,?_⟩
          have n0_:=Aside0.mk (Kd.R_below (by (with_reducible repeat (first|apply Kd.R_alloc|apply Kd.R_drewN|apply Kd.R_drew));exact HO_4.out) hb)
          have n1_:=Aside0.mk (Kd.R_below (by (with_reducible repeat (first|apply Kd.R_alloc|apply Kd.R_drewN|apply Kd.R_drew));exact HO_5.out) hb)
          have n2_:=Aside0.mk (below_step (by repeat (first|(with_reducible first|exact HB.out|apply below_alloc|apply pw_below_drewN|apply below_drew1)|exact HB.out)) hb)
          clear HO_4
          clear HO_5
          clear HB
          have HO_4:=n0_
          have HO_5:=n1_
          have HB:=n2_
          clear n0_ n1_ n2_
          (try clear hb)
          (try clear hb2)
          (try clear hk)
          (try clear hi)
          refine hK.out _ _ trivial (fun hHeld=>?_)
          clear hK K
          refine norm_ (a':=?_) ?_ ?_
          rotate_left
          ·
           show Act.put _ (some 43) _=_
           simp only [Act.put,List.setIfInBounds_toArray,List.set_cons_zero,List.set_cons_succ,i64_w,i32_w]
           rfl
          refine one_ (i:=8) (N:=some 47) #[true,true,true,true,true,true,true,true,true,false,false,false,false] rfl rfl (one_of HT_.out (by kernel_rfl)) (by decide) (fun K hK=>?_)
          refine goes_ Try.func95 (by kernel_rfl) rfl #[.slice A34 (l0.drop (t548:Int).toNat).length (c0 - t548.toNat)] (by rfl) rfl rfl (by (try simp only [List.map_toArray,List.map_cons,List.map_nil]);first|done|(rw [show (l0.drop (t548:Int).toNat).length=(l0.length - t548.toNat) from List.length_drop] <;> rfl)|rfl|(simp only [List.length_drop,List.length_take];rfl)) ?_
          with_reducible refine (mosaicref03_Top.calls k1 _ _ (l0.drop (t548:Int).toNat) t564 _ ?side1 ?side2 A28.out).mono ?_
          (case side1=>repeat (first|exact (Kd.C_below HR563.out HB.out)|(with_reducible refine Kd.C_alloc ?_ _)|(with_reducible refine Kd.C_drewN ?_ _)|(with_reducible refine Kd.C_drew ?_)))
          (case side2=>exact HC563.out)
          rintro e w36 ⟨rfl,hb⟩
          refine ⟨_,rfl,?_⟩
          have n0_:=Aside0.mk (Kd.R_below (by (with_reducible repeat (first|apply Kd.R_alloc|apply Kd.R_drewN|apply Kd.R_drew));exact HO_4.out) hb)
          have n1_:=Aside0.mk (Kd.R_below (by (with_reducible repeat (first|apply Kd.R_alloc|apply Kd.R_drewN|apply Kd.R_drew));exact HO_5.out) hb)
          have n2_:=Aside0.mk (below_step (by repeat (first|(with_reducible first|exact HB.out|apply below_alloc|apply pw_below_drewN|apply below_drew1)|exact HB.out)) hb)
          clear HO_4
          clear HO_5
          clear HB
          have HO_4:=n0_
          have HO_5:=n1_
          have HB:=n2_
          clear n0_ n1_ n2_
          (try clear hb)
          (try clear hb2)
          (try clear hk)
          (try clear hi)
          refine hK.out _ _ trivial (fun hHeld=>?_)
          clear hK K
          refine norm_ (a':=?_) ?_ ?_
          rotate_left
          ·
           show Act.put _ (some 47) _=_
           simp only [Act.put,List.setIfInBounds_toArray,List.set_cons_zero,List.set_cons_succ,i64_w,i32_w]
           rfl
          refine one_ (i:=9) (N:=some 48) #[true,true,true,true,true,true,true,true,true,true,false,false,false] rfl rfl (one_of HT_.out (by kernel_rfl)) (by decide) (fun K hK=>?_)
          refine goes_ Try.func51 (by kernel_rfl) rfl #[.string t562,.string t564] (by rfl) rfl rfl (by (try simp only [List.map_toArray,List.map_cons,List.map_nil]);first|done|rfl|(simp only [List.length_drop,List.length_take];rfl)) ?_
          with_reducible refine (mosaicref03_KnotText.calls t562 t564 t565 _ A29.out).mono ?_
          rintro e w' ⟨rfl,⟨nd,rfl⟩⟩
          refine ⟨_,rfl,?_⟩
          refine hK.out _ _ trivial (fun hHeld=>?_)
          clear hK K
          refine norm_ (a':=?_) ?_ ?_
          rotate_left
          ·
           show Act.put _ (some 48) _=_
           simp only [Act.put,List.setIfInBounds_toArray,List.set_cons_zero,List.set_cons_succ,i64_w,i32_w]
           rfl
          refine one_ (i:=10) (N:=some 49) #[true,true,true,true,true,true,true,true,true,true,true,false,false] rfl rfl (one_of HT_.out (by kernel_rfl)) (by decide) (fun K hK=>?_)
          refine value_ (w1:=?_) (v:=?_) (by rfl) rfl ?_ ?_
          rotate_left 2
          ·
           go_simp
           constructor
           ·
            rfl
           ·
            rfl
          refine hK.out _ _ trivial (fun hHeld=>?_)
          clear hK K
          refine norm_ (a':=?_) ?_ ?_
          rotate_left
          ·
           show Act.put _ (some 49) _=_
           simp only [Act.put,List.setIfInBounds_toArray,List.set_cons_zero,List.set_cons_succ,i64_w,i32_w]
           rfl
          refine one_ (i:=11) (N:=some 50) #[true,true,true,true,true,true,true,true,true,true,true,true,false] rfl rfl (one_of HT_.out (by kernel_rfl)) (by decide) (fun K hK=>?_)
          refine Kd.R_append_step Kd.string (w0:=w) w.heap.size (by rfl) (.tmp 39) (.tmp 49) 39 9 (.string ⟨#[]⟩) 16 rfl Try.underlying39 info9 rfl (by decide) (by omega) u4 x4_1 t565 [.string t565] (fun k_=>some k_≠(.slice Ao31 t554.length co31:Value).ownBlock) (fun _=>False) rfl rfl ?aP (fun _ hk=>hk.elim) ?aF ?aO ?aB ?aS ?aL ?_
          (case aP=>exact rfl)
          (case aB=>exact (by repeat (first|(with_reducible first|exact HB.out|apply below_alloc|apply pw_below_drewN|apply below_drew1)|exact HB.out)))
          (case aF=>exact (fun k_ hk=>Kd.fresh' (Kd.R_lt (by (with_reducible repeat (first|apply Kd.R_alloc|apply Kd.R_drewN|apply Kd.R_drew));exact HO_5.out)) k_ hk))
          (case aO=>exact (by (with_reducible repeat (first|apply Kd.R_alloc|apply Kd.R_drewN|apply Kd.R_drew));exact HO_4.out))
          (case aS=>exact (below_size (by repeat (first|(with_reducible first|exact HB.out|apply below_alloc|apply pw_below_drewN|apply below_drew1)|exact HB.out))))
          (case aL=>have:=LMc30.out;omega)
          intro v567 w37 ho hb hg hat
          rw [← Ny566.out] at ho
          have n0_:=Aside0.mk (Kd.R_after (ok:=(fun _=>True)) (by (with_reducible repeat (first|apply Kd.R_alloc|apply Kd.R_drewN|apply Kd.R_drew));exact Kd.R_mono HO_5.out (fun _ hk=>⟨trivial,hk⟩)) hg hat)
          have n1_:=Aside0.mk (hb)
          have n2_:=Aside0.mk (ho)
          clear HO_5
          clear HB
          clear HO_4
          have HO_5:=n0_
          have HB:=n1_
          have HO568:=n2_
          clear n0_ n1_ n2_
          clear ho hb hg hat
          refine hK.out _ _ trivial (fun hHeld=>?_)
          clear hK K
          refine norm_ (a':=?_) ?_ ?_
          rotate_left
          ·
           show Act.put _ (some 50) _=_
           simp only [Act.put,List.setIfInBounds_toArray,List.set_cons_zero,List.set_cons_succ,i64_w,i32_w]
           rfl
          refine pure_ (i:=12) (N:=some 4) (v:=?_) (a':=?_) #[true,true,true,true,true,true,true,true,true,true,true,true,true] rfl rfl (any_of HT_.out (by kernel_rfl)) (fun _ _ _ h=>h) (Or.inl ⟨by rfl,?_⟩) ?_ ?_
          rotate_left
          ·
           intro w'
           go_simp
           with_reducible rfl
          rotate_left
          ·
           simp only [Act.put,List.setIfInBounds_toArray,List.set_cons_zero,List.set_cons_succ,i64_w,i32_w]
           rfl
          refine done_ (done_of HT_.out (by kernel_rfl)) ?_
          try go_wp2
          go_ret
          exact ⟨_,by first|rfl|(simp [errW_none,errW_some] <;> rfl)|(simp [*,errW_none,errW_some] <;> rfl),by (with_reducible repeat (first|apply Kd.R_alloc|apply Kd.R_drewN|apply Kd.R_drew));exact Kd.R_mono HO568.out (fun _ hk=>trivial),by repeat (first|(with_reducible first|exact HB.out|apply below_alloc|apply pw_below_drewN|apply below_drew1)|exact HB.out)⟩
         ·
          rw [if_neg c30] at H
          exact absurd H (by simp)
        ·
         rw [if_neg c24] at H
         exact absurd H (by simp)
       ·
        rw [if_neg c23] at H
        exact absurd H (by simp)
   ·
    rw [if_neg c9] at H
    exact absurd H (by simp)
  ·
   rw [if_neg c8] at H
   exact absurd H (by simp)
end Go.Proofs.Ytelcaepenfjloaa.Print
/-! #### Pr74 -/
namespace Go.Proofs.Ytelcaepenfjloaa.Print
open Go.RowKit Go.Proofs.YtelcaepenfjloaaW.PrintWords Go.Proofs.YtelcaepenfjloaaW.PrintLast Go.Proofs.YtelcaepenfjloaaW.PrintMore
attribute [local go_sem] max2_int min2_int max_two min_two max_three min_three max_four min_four
set_option linter.unusedVariables false
set_option linter.unusedSimpArgs false
/-! ### mosaicref03_Texts: function 74 -/
def mosaicref03_Texts.f (k:Nat) (l0:List ByteArray):Option (List ByteArray):=(mosaicref03_May.f k l0).bind fun t569=>(if t569=0 then ((mosaicref03_texts.f k l0).bind fun t570=>(some t570)) else (some ([]:List ByteArray)))
theorem mosaicref03_Texts.mono:∀ a0 k,LeO (mosaicref03_Texts.f k a0) (mosaicref03_Texts.f (k+1) a0):=by
 intro a0 k
 unfold mosaicref03_Texts.f
 repeat' first
   | (with_reducible exact mosaicref03_May.mono _ _)
   | (with_reducible exact mosaicref03_texts.mono _ _)
   | (with_reducible exact LeO.refl _)
   | (with_reducible exact LeO.none _)
   | (with_reducible refine LeO.ite ?_ ?_)
   | (with_reducible refine LeO.bind ?_ (fun _=>?_))
   | exact mosaicref03_May.mono _ _
   | exact mosaicref03_texts.mono _ _
   | exact LeO.none _
   | refine LeO.ite ?_ ?_
   | refine LeO.bind ?_ (fun _=>?_)
set_option maxHeartbeats 8000000 in
set_option maxRecDepth 100000 in
theorem mosaicref03_Texts.calls (k:Nat) (A0:Option Addr) (c0:Nat) (l0:List ByteArray) (r:List ByteArray) (w:World) (hr0:Kd.C Kd.string w A0 l0.length l0) (hc0:l0.length≤c0) (h:mosaicref03_Texts.f k l0=some r) :
  Calls Try.prog 74 #[.slice A0 l0.length c0] w fun e w'=>∃ v0_:Value,e=.returned (v0_)∧Kd.R Kd.string 9 w' w.heap.size (fun _=>True) v0_ r∧Below w.heap.size w w':=by
 have HR0:=Aside0.mk hr0
 have HC0:=Aside0.mk hc0
 clear hr0 hc0
 have HB:=Aside0.mk (Below.refl w.heap.size w)
 have H:((mosaicref03_May.f k l0).bind fun t569=>(if t569=0 then ((mosaicref03_texts.f k l0).bind fun t570=>(some t570)) else (some ([]:List ByteArray))))=some r:=h
 clear h
 replace H:=Option.bind_eq_some_iff.mp H
 obtain ⟨t569,A20,H⟩:=H
 replace H:(if t569=0 then ((mosaicref03_texts.f k l0).bind fun t570=>(some t570)) else (some ([]:List ByteArray)))=some r:=H
 have A2:=Aside0.mk A20
 clear A20
 by_cases c3:t569=0
 ·
  rw [if_pos c3] at H
  have c3b0:(t569 == 0)=true:=beq_iff_eq.mpr c3
  have c3b1:(t569 != 0)=false:=bne_eq_false_iff_eq.mpr c3
  clear c3
  replace H:=Option.bind_eq_some_iff.mp H
  obtain ⟨t570,A40,H⟩:=H
  replace H:(some t570)=some r:=H
  have A4:=Aside0.mk A40
  clear A40
  obtain rfl:=Option.some.inj H
  go_enter Try.func74,Try.ntmps74
  go_wp2_with (first|((with_reducible refine gate_callee (f:=94) rfl ?_);refine goesL_ (some 4) rfl rfl Try.func94 (by kernel_rfl) rfl #[.slice A0 l0.length c0] rfl (by (try simp only [List.map_toArray,List.map_cons,List.map_nil]);first|done|rfl|(simp only [List.length_drop,List.length_take];rfl)) ?_;(with_reducible refine (mosaicref03_May.calls k _ _ l0 t569 _ ?side1 ?side2 A2.out).mono ?_);(case side1=>repeat (first|exact HR0.out|(with_reducible refine Kd.C_alloc ?_ _)|(with_reducible refine Kd.C_drewN ?_ _)|(with_reducible refine Kd.C_drew ?_)));(case side2=>exact HC0.out);rintro e w' ⟨rfl,⟨nd,rfl⟩⟩;refine ⟨_,rfl,?_⟩)|((with_reducible refine gate_callee (f:=108) rfl ?_);refine goesL_ (some 7) rfl rfl Try.func108 (by kernel_rfl) rfl #[.slice A0 l0.length c0] rfl (by (try simp only [List.map_toArray,List.map_cons,List.map_nil]);first|done|rfl|(simp only [List.length_drop,List.length_take];rfl)) ?_;(with_reducible refine (mosaicref03_texts.calls k _ _ l0 t570 _ ?side1 ?side2 A4.out).mono ?_);(case side1=>repeat (first|exact HR0.out|(with_reducible refine Kd.C_alloc ?_ _)|(with_reducible refine Kd.C_drewN ?_ _)|(with_reducible refine Kd.C_drew ?_)));(case side2=>exact HC0.out);rintro e w5 ⟨v571,rfl,ho0,hb⟩;refine ⟨_,rfl,?_⟩;have n0_:=Aside0.mk (Kd.R_lower ho0 (below_size (by repeat (first|(with_reducible first|exact HB.out|apply below_alloc|apply pw_below_drewN|apply below_drew1)|exact HB.out))));have n1_:=Aside0.mk (below_step (by repeat (first|(with_reducible first|exact HB.out|apply below_alloc|apply pw_below_drewN|apply below_drew1)|exact HB.out)) hb);clear HB;have HO572:=n0_;have HB:=n1_;clear n0_ n1_;(try clear hb);(try clear hb2);(try clear hk);(try clear hi);(try clear ho0)))
  go_ret
  exact ⟨_,by first|rfl|(simp [errW_none,errW_some] <;> rfl)|(simp [*,errW_none,errW_some] <;> rfl),by (with_reducible repeat (first|apply Kd.R_alloc|apply Kd.R_drewN|apply Kd.R_drew));exact HO572.out,by repeat (first|(with_reducible first|exact HB.out|apply below_alloc|apply pw_below_drewN|apply below_drew1)|exact HB.out)⟩
 ·
  rw [if_neg c3] at H
  have c3b0:(t569 == 0)=false:=beq_eq_false_iff_ne.mpr c3
  have c3b1:(t569 != 0)=true:=bne_iff_ne.mpr c3
  obtain rfl:=Option.some.inj H
  go_enter Try.func74,Try.ntmps74
  go_wp2_with (first|((with_reducible refine gate_callee (f:=94) rfl ?_);refine goesL_ (some 4) rfl rfl Try.func94 (by kernel_rfl) rfl #[.slice A0 l0.length c0] rfl (by (try simp only [List.map_toArray,List.map_cons,List.map_nil]);first|done|rfl|(simp only [List.length_drop,List.length_take];rfl)) ?_;(with_reducible refine (mosaicref03_May.calls k _ _ l0 t569 _ ?side1 ?side2 A2.out).mono ?_);(case side1=>repeat (first|exact HR0.out|(with_reducible refine Kd.C_alloc ?_ _)|(with_reducible refine Kd.C_drewN ?_ _)|(with_reducible refine Kd.C_drew ?_)));(case side2=>exact HC0.out);rintro e w' ⟨rfl,⟨nd,rfl⟩⟩;refine ⟨_,rfl,?_⟩))
  go_ret
  exact ⟨_,by first|rfl|(simp [errW_none,errW_some] <;> rfl)|(simp [*,errW_none,errW_some] <;> rfl),by first|exact Kd.R_nil _ _ _ _ _|exact Kd.N_nil _ _ _ _ _|exact Kd.V_nil _ _ _ _ _|exact Kd.Q_nil _ _ _ _ _|exact Kd.S_nil _ _ _ _ _,by repeat (first|(with_reducible first|exact HB.out|apply below_alloc|apply pw_below_drewN|apply below_drew1)|exact HB.out)⟩
end Go.Proofs.Ytelcaepenfjloaa.Print
