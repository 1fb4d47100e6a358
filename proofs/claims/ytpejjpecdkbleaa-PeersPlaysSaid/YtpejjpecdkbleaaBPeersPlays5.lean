/- The proof of the statement PeersPlays of the seat, part 5 of 6: the functions that it reaches, as plain functions, with the walks that show it, and what they come to; the last part ends in the row. No condition beyond the statement's own. -/
import Derived.IntWalk
import Derived.BigQuiet
import Derived.Deep.QuietTactic
import Derived.Deep.RegionLaw
import Derived.RegionTactic
import Derived.Outline
import Derived.Laws.CopyOwn
import Derived.StillTailTactics
import Derived.Deep.RegionHeld3
import Derived.Deep.DeepCutAuto
import Derived.Test.YtpejjpecdkbleaaBPeersPlays1
import Derived.Test.YtpejjpecdkbleaaBPeersPlays2
import Derived.Test.YtpejjpecdkbleaaBPeersPlays3
import Derived.Test.YtpejjpecdkbleaaBPeersPlays4
/-! #### PurePeers2 -/
/- peers: what the references come to, as plain lists: Set, Meet, Late, Expire, Roll. -/
namespace Go.Proofs.Ytpejjpecdkbleaa.Pure
open Go.RowKit Go.Proofs.Ytpejjpecdkbleaa.Print Go.Proofs.YtpejjpecdkbleaaW.PrintWords Go.Proofs.YtpejjpecdkbleaaW.PrintLast Go.Proofs.YtpejjpecdkbleaaW.PrintMore
set_option linter.unusedVariables false
set_option linter.unusedSimpArgs false
theorem findI_lt:∀ (l:List Rp) (n:Int) (i:Nat),findI l n i < 0∨(0≤findI l n i∧findI l n i < ((i+l.length:Nat):Int))
 | [],n,i=>.inl (by unfold findI;omega)
 | x :: t,n,i=>by
  unfold findI
  by_cases h:x.f0=n
  ·
   rw [if_pos h]
   right
   simp
   omega
  ·
   rw [if_neg h]
   rcases findI_lt t n (i+1) with h1|⟨h1,h2⟩
   ·
    exact .inl h1
   ·
    right
    refine ⟨h1,?_⟩
    simp only [List.length_cons]
    omega
def setR (l:List Rp) (n:Int) (bad:Bool) (upd:Rp→Rp):List Rp×Int :=
 if bad=true then (l,1) else if findI l n 0 < 0 then (l,4) else (withL l (upd (rd_T56 l (findI l n 0))),0)
theorem set0_ev (room tmo:Int) (l:List Rp) (lb:List Int) (n a3:Int) (a4:ByteArray) (hl:l.length < 1000000):Ev (fun k=>mosaicref18_Table_Set.j0 k n 0 a3 a4 false room tmo l lb) (room,tmo,(setR l n false (fun x=>if x.f6 < a3 then { x with f6:=a3 } else x)).1,lb,(setR l n false (fun x=>if x.f6 < a3 then { x with f6:=a3 } else x)).2):=by
 unfold setR
 rw [if_neg (show ¬ false=true by simp)]
 refine Ev.succ ?_
 simp only [mosaicref18_Table_Set.j0]
 refine Ev.neg (by simp) (Ev.bind (find_f room tmo l lb n hl) ?_)
 by_cases hf:findI l n 0 < 0
 ·
  rw [if_pos hf]
  exact Ev.pos hf (Ev.some_ rfl)
 ·
  rw [if_neg hf]
  have hr:=(findI_lt l n 0).resolve_left hf
  refine Ev.neg hf (Ev.pos hr.1 (Ev.pos (by have:=hr.2;omega) ?_))
  generalize rd_T56 l (findI l n 0)=x
  refine Ev.pos (by decide) ?_
  by_cases hx:x.f6 < a3
  ·
   rw [if_pos hx]
   refine Ev.succ ?_
   simp only [mosaicref18_Table_Set.j1]
   refine Ev.pos (by simp;exact hx) ?_
   refine Ev.succ ?_
   simp only [mosaicref18_Table_Set.j2]
   refine Ev.neg (by decide) ?_
   refine Ev.succ ?_
   simp only [mosaicref18_Table_Set.j3]
   refine Ev.neg (by decide) ?_
   refine Ev.succ ?_
   simp only [mosaicref18_Table_Set.j4]
   refine Ev.neg (by decide) ?_
   refine Ev.succ ?_
   simp only [mosaicref18_Table_Set.j5]
   refine Ev.neg (by decide) ?_
   refine Ev.succ ?_
   simp only [mosaicref18_Table_Set.j6]
   refine Ev.neg (by decide) ?_
   exact Ev.bind (with_f room tmo l lb { x with f6:=a3 } hl) (Ev.some_ rfl)
  ·
   rw [if_neg hx]
   refine Ev.succ ?_
   simp only [mosaicref18_Table_Set.j1]
   refine Ev.neg (by simp;omega) ?_
   refine Ev.succ ?_
   simp only [mosaicref18_Table_Set.j2]
   refine Ev.neg (by decide) ?_
   refine Ev.succ ?_
   simp only [mosaicref18_Table_Set.j3]
   refine Ev.neg (by decide) ?_
   refine Ev.succ ?_
   simp only [mosaicref18_Table_Set.j4]
   refine Ev.neg (by decide) ?_
   refine Ev.succ ?_
   simp only [mosaicref18_Table_Set.j5]
   refine Ev.neg (by decide) ?_
   refine Ev.succ ?_
   simp only [mosaicref18_Table_Set.j6]
   refine Ev.neg (by decide) ?_
   exact Ev.bind (with_f room tmo l lb x hl) (Ev.some_ rfl)
theorem set0_f (room tmo:Int) (l:List Rp) (lb:List Int) (n a3:Int) (a4:ByteArray) (hl:l.length < 1000000):Ev (fun k=>mosaicref18_Table_Set.f k room tmo l lb n 0 a3 a4) (room,tmo,(setR l n (!decide (0≤a3∧a3≤1099511627776)) (fun x=>if x.f6 < a3 then { x with f6:=a3 } else x)).1,lb,(setR l n (!decide (0≤a3∧a3≤1099511627776)) (fun x=>if x.f6 < a3 then { x with f6:=a3 } else x)).2):=by
 unfold mosaicref18_Table_Set.f
 refine Ev.pos rfl ?_
 rw [rtick_f]
 refine Ev.some_bind ?_
 by_cases h:0≤a3∧a3≤1099511627776
 ·
  rw [decide_eq_true h]
  refine Ev.pos rfl (Ev.neg (by decide) (Ev.neg (by decide) ?_))
  exact set0_ev room tmo l lb n a3 a4 hl
 ·
  rw [decide_eq_false h]
  refine Ev.neg (by simp) ?_
  refine Ev.succ ?_
  simp only [mosaicref18_Table_Set.j0]
  refine Ev.pos (by simp) (Ev.some_ ?_)
  rfl
theorem set1_ev (room tmo:Int) (l:List Rp) (lb:List Int) (n a3:Int) (a4:ByteArray) (hl:l.length < 1000000):Ev (fun k=>mosaicref18_Table_Set.j0 k n 1 a3 a4 false room tmo l lb) (room,tmo,(setR l n false (fun x=>{ x with f2:=a4 })).1,lb,(setR l n false (fun x=>{ x with f2:=a4 })).2):=by
 unfold setR
 rw [if_neg (show ¬ false=true by simp)]
 refine Ev.succ ?_
 simp only [mosaicref18_Table_Set.j0]
 refine Ev.neg (by simp) (Ev.bind (find_f room tmo l lb n hl) ?_)
 by_cases hf:findI l n 0 < 0
 ·
  rw [if_pos hf]
  exact Ev.pos hf (Ev.some_ rfl)
 ·
  rw [if_neg hf]
  have hr:=(findI_lt l n 0).resolve_left hf
  refine Ev.neg hf (Ev.pos hr.1 (Ev.pos (by have:=hr.2;omega) ?_))
  generalize rd_T56 l (findI l n 0)=x
  refine Ev.neg (by decide) ?_
  refine Ev.succ ?_
  simp only [mosaicref18_Table_Set.j1]
  refine Ev.neg (by simp) ?_
  refine Ev.succ ?_
  simp only [mosaicref18_Table_Set.j2]
  refine Ev.pos (by decide) ?_
  refine Ev.succ ?_
  simp only [mosaicref18_Table_Set.j3]
  refine Ev.neg (by decide) ?_
  refine Ev.succ ?_
  simp only [mosaicref18_Table_Set.j4]
  refine Ev.neg (by decide) ?_
  refine Ev.succ ?_
  simp only [mosaicref18_Table_Set.j5]
  refine Ev.neg (by decide) ?_
  refine Ev.succ ?_
  simp only [mosaicref18_Table_Set.j6]
  refine Ev.neg (by decide) ?_
  exact Ev.bind (with_f room tmo l lb { x with f2:=a4 } hl) (Ev.some_ rfl)
theorem set1_f (room tmo:Int) (l:List Rp) (lb:List Int) (n a3:Int) (a4:ByteArray) (hl:l.length < 1000000):Ev (fun k=>mosaicref18_Table_Set.f k room tmo l lb n 1 a3 a4) (room,tmo,(setR l n (decide (20 < (a4.size:Int))) (fun x=>{ x with f2:=a4 })).1,lb,(setR l n (decide (20 < (a4.size:Int))) (fun x=>{ x with f2:=a4 })).2):=by
 unfold mosaicref18_Table_Set.f
 refine Ev.neg (by decide) (Ev.pos rfl ?_)
 by_cases h:20 < (a4.size:Int)
 ·
  rw [decide_eq_true h]
  refine Ev.pos h ?_
  refine Ev.succ ?_
  simp only [mosaicref18_Table_Set.j0]
  refine Ev.pos (by simp) (Ev.some_ ?_)
  rfl
 ·
  rw [decide_eq_false h]
  refine Ev.neg h (Ev.neg (by decide) ?_)
  exact set1_ev room tmo l lb n a3 a4 hl
theorem set2_ev (room tmo:Int) (l:List Rp) (lb:List Int) (n a3:Int) (a4:ByteArray) (hl:l.length < 1000000):Ev (fun k=>mosaicref18_Table_Set.j0 k n 2 a3 a4 false room tmo l lb) (room,tmo,(setR l n false (fun x=>{ x with f3:=a3 == 1 })).1,lb,(setR l n false (fun x=>{ x with f3:=a3 == 1 })).2):=by
 unfold setR
 rw [if_neg (show ¬ false=true by simp)]
 refine Ev.succ ?_
 simp only [mosaicref18_Table_Set.j0]
 refine Ev.neg (by simp) (Ev.bind (find_f room tmo l lb n hl) ?_)
 by_cases hf:findI l n 0 < 0
 ·
  rw [if_pos hf]
  exact Ev.pos hf (Ev.some_ rfl)
 ·
  rw [if_neg hf]
  have hr:=(findI_lt l n 0).resolve_left hf
  refine Ev.neg hf (Ev.pos hr.1 (Ev.pos (by have:=hr.2;omega) ?_))
  generalize rd_T56 l (findI l n 0)=x
  refine Ev.neg (by decide) ?_
  refine Ev.succ ?_
  simp only [mosaicref18_Table_Set.j1]
  refine Ev.neg (by simp) ?_
  refine Ev.succ ?_
  simp only [mosaicref18_Table_Set.j2]
  refine Ev.neg (by decide) ?_
  refine Ev.succ ?_
  simp only [mosaicref18_Table_Set.j3]
  refine Ev.pos (by decide) ?_
  refine Ev.succ ?_
  simp only [mosaicref18_Table_Set.j4]
  refine Ev.neg (by decide) ?_
  refine Ev.succ ?_
  simp only [mosaicref18_Table_Set.j5]
  refine Ev.neg (by decide) ?_
  refine Ev.succ ?_
  simp only [mosaicref18_Table_Set.j6]
  refine Ev.neg (by decide) ?_
  exact Ev.bind (with_f room tmo l lb { x with f3:=a3 == 1 } hl) (Ev.some_ rfl)
theorem set2_f (room tmo:Int) (l:List Rp) (lb:List Int) (n a3:Int) (a4:ByteArray) (hl:l.length < 1000000):Ev (fun k=>mosaicref18_Table_Set.f k room tmo l lb n 2 a3 a4) (room,tmo,(setR l n (false) (fun x=>{ x with f3:=a3 == 1 })).1,lb,(setR l n (false) (fun x=>{ x with f3:=a3 == 1 })).2):=by
 unfold mosaicref18_Table_Set.f
 refine Ev.neg (by decide) (Ev.neg (by decide) (Ev.neg (by decide) ?_))
 exact set2_ev room tmo l lb n a3 a4 hl
theorem set3_ev (room tmo:Int) (l:List Rp) (lb:List Int) (n a3:Int) (a4:ByteArray) (hl:l.length < 1000000):Ev (fun k=>mosaicref18_Table_Set.j0 k n 3 a3 a4 false room tmo l lb) (room,tmo,(setR l n false (fun x=>{ x with f4:=a3 == 1 })).1,lb,(setR l n false (fun x=>{ x with f4:=a3 == 1 })).2):=by
 unfold setR
 rw [if_neg (show ¬ false=true by simp)]
 refine Ev.succ ?_
 simp only [mosaicref18_Table_Set.j0]
 refine Ev.neg (by simp) (Ev.bind (find_f room tmo l lb n hl) ?_)
 by_cases hf:findI l n 0 < 0
 ·
  rw [if_pos hf]
  exact Ev.pos hf (Ev.some_ rfl)
 ·
  rw [if_neg hf]
  have hr:=(findI_lt l n 0).resolve_left hf
  refine Ev.neg hf (Ev.pos hr.1 (Ev.pos (by have:=hr.2;omega) ?_))
  generalize rd_T56 l (findI l n 0)=x
  refine Ev.neg (by decide) ?_
  refine Ev.succ ?_
  simp only [mosaicref18_Table_Set.j1]
  refine Ev.neg (by simp) ?_
  refine Ev.succ ?_
  simp only [mosaicref18_Table_Set.j2]
  refine Ev.neg (by decide) ?_
  refine Ev.succ ?_
  simp only [mosaicref18_Table_Set.j3]
  refine Ev.neg (by decide) ?_
  refine Ev.succ ?_
  simp only [mosaicref18_Table_Set.j4]
  refine Ev.pos (by decide) ?_
  refine Ev.succ ?_
  simp only [mosaicref18_Table_Set.j5]
  refine Ev.neg (by decide) ?_
  refine Ev.succ ?_
  simp only [mosaicref18_Table_Set.j6]
  refine Ev.neg (by decide) ?_
  exact Ev.bind (with_f room tmo l lb { x with f4:=a3 == 1 } hl) (Ev.some_ rfl)
theorem set3_f (room tmo:Int) (l:List Rp) (lb:List Int) (n a3:Int) (a4:ByteArray) (hl:l.length < 1000000):Ev (fun k=>mosaicref18_Table_Set.f k room tmo l lb n 3 a3 a4) (room,tmo,(setR l n (false) (fun x=>{ x with f4:=a3 == 1 })).1,lb,(setR l n (false) (fun x=>{ x with f4:=a3 == 1 })).2):=by
 unfold mosaicref18_Table_Set.f
 refine Ev.neg (by decide) (Ev.neg (by decide) (Ev.neg (by decide) ?_))
 exact set3_ev room tmo l lb n a3 a4 hl
theorem set4_ev (room tmo:Int) (l:List Rp) (lb:List Int) (n a3:Int) (a4:ByteArray) (hl:l.length < 1000000):Ev (fun k=>mosaicref18_Table_Set.j0 k n 4 a3 a4 false room tmo l lb) (room,tmo,(setR l n false (fun x=>{ x with f5:=a3 == 1 })).1,lb,(setR l n false (fun x=>{ x with f5:=a3 == 1 })).2):=by
 unfold setR
 rw [if_neg (show ¬ false=true by simp)]
 refine Ev.succ ?_
 simp only [mosaicref18_Table_Set.j0]
 refine Ev.neg (by simp) (Ev.bind (find_f room tmo l lb n hl) ?_)
 by_cases hf:findI l n 0 < 0
 ·
  rw [if_pos hf]
  exact Ev.pos hf (Ev.some_ rfl)
 ·
  rw [if_neg hf]
  have hr:=(findI_lt l n 0).resolve_left hf
  refine Ev.neg hf (Ev.pos hr.1 (Ev.pos (by have:=hr.2;omega) ?_))
  generalize rd_T56 l (findI l n 0)=x
  refine Ev.neg (by decide) ?_
  refine Ev.succ ?_
  simp only [mosaicref18_Table_Set.j1]
  refine Ev.neg (by simp) ?_
  refine Ev.succ ?_
  simp only [mosaicref18_Table_Set.j2]
  refine Ev.neg (by decide) ?_
  refine Ev.succ ?_
  simp only [mosaicref18_Table_Set.j3]
  refine Ev.neg (by decide) ?_
  refine Ev.succ ?_
  simp only [mosaicref18_Table_Set.j4]
  refine Ev.neg (by decide) ?_
  refine Ev.succ ?_
  simp only [mosaicref18_Table_Set.j5]
  refine Ev.pos (by decide) ?_
  refine Ev.succ ?_
  simp only [mosaicref18_Table_Set.j6]
  refine Ev.neg (by decide) ?_
  exact Ev.bind (with_f room tmo l lb { x with f5:=a3 == 1 } hl) (Ev.some_ rfl)
theorem set4_f (room tmo:Int) (l:List Rp) (lb:List Int) (n a3:Int) (a4:ByteArray) (hl:l.length < 1000000):Ev (fun k=>mosaicref18_Table_Set.f k room tmo l lb n 4 a3 a4) (room,tmo,(setR l n (false) (fun x=>{ x with f5:=a3 == 1 })).1,lb,(setR l n (false) (fun x=>{ x with f5:=a3 == 1 })).2):=by
 unfold mosaicref18_Table_Set.f
 refine Ev.neg (by decide) (Ev.neg (by decide) (Ev.neg (by decide) ?_))
 exact set4_ev room tmo l lb n a3 a4 hl
theorem set5_ev (room tmo:Int) (l:List Rp) (lb:List Int) (n a3:Int) (a4:ByteArray) (hl:l.length < 1000000) (hb:∀ x∈l,0≤x.f7∧x.f7≤1099511627776) (h3:0≤a3∧a3≤1099511627776):Ev (fun k=>mosaicref18_Table_Set.j0 k n 5 a3 a4 false room tmo l lb) (room,tmo,(setR l n false (fun x=>{ x with f7:=if 1099511627776 < x.f7+a3 then 1099511627776 else x.f7+a3 })).1,lb,(setR l n false (fun x=>{ x with f7:=if 1099511627776 < x.f7+a3 then 1099511627776 else x.f7+a3 })).2):=by
 unfold setR
 rw [if_neg (show ¬ false=true by simp)]
 refine Ev.succ ?_
 simp only [mosaicref18_Table_Set.j0]
 refine Ev.neg (by simp) (Ev.bind (find_f room tmo l lb n hl) ?_)
 by_cases hf:findI l n 0 < 0
 ·
  rw [if_pos hf]
  exact Ev.pos hf (Ev.some_ rfl)
 ·
  rw [if_neg hf]
  have hr:=(findI_lt l n 0).resolve_left hf
  refine Ev.neg hf (Ev.pos hr.1 (Ev.pos (by have:=hr.2;omega) ?_))
  have hm:=hb (rd_T56 l (findI l n 0)) (by
   obtain ⟨j,hj⟩:=Int.eq_ofNat_of_zero_le hr.1
   have hjl:j < l.length:=by have:=hr.2;omega
   rw [hj,rdp l j hjl]
   exact List.getElem_mem hjl)
  generalize rd_T56 l (findI l n 0)=x at hm ⊢
  refine Ev.neg (by decide) ?_
  refine Ev.succ ?_
  simp only [mosaicref18_Table_Set.j1]
  refine Ev.neg (by simp) ?_
  refine Ev.succ ?_
  simp only [mosaicref18_Table_Set.j2]
  refine Ev.neg (by decide) ?_
  refine Ev.succ ?_
  simp only [mosaicref18_Table_Set.j3]
  refine Ev.neg (by decide) ?_
  refine Ev.succ ?_
  simp only [mosaicref18_Table_Set.j4]
  refine Ev.neg (by decide) ?_
  refine Ev.succ ?_
  simp only [mosaicref18_Table_Set.j5]
  refine Ev.neg (by decide) ?_
  refine Ev.succ ?_
  simp only [mosaicref18_Table_Set.j6]
  refine Ev.pos (by decide) ?_
  rw [wrap_of (x:=x.f7+a3) (by omega) (by omega)]
  by_cases hx:1099511627776 < x.f7+a3
  ·
   rw [if_pos hx]
   exact Ev.pos hx (Ev.bind (with_f room tmo l lb { x with f7:=1099511627776 } hl) (Ev.some_ rfl))
  ·
   rw [if_neg hx]
   exact Ev.neg hx (Ev.bind (with_f room tmo l lb { x with f7:=x.f7+a3 } hl) (Ev.some_ rfl))
theorem set5_f (room tmo:Int) (l:List Rp) (lb:List Int) (n a3:Int) (a4:ByteArray) (hl:l.length < 1000000) (hb:∀ x∈l,0≤x.f7∧x.f7≤1099511627776):Ev (fun k=>mosaicref18_Table_Set.f k room tmo l lb n 5 a3 a4) (room,tmo,(setR l n (!decide (0≤a3∧a3≤1099511627776)) (fun x=>{ x with f7:=if 1099511627776 < x.f7+a3 then 1099511627776 else x.f7+a3 })).1,lb,(setR l n (!decide (0≤a3∧a3≤1099511627776)) (fun x=>{ x with f7:=if 1099511627776 < x.f7+a3 then 1099511627776 else x.f7+a3 })).2):=by
 unfold mosaicref18_Table_Set.f
 refine Ev.neg (by decide) (Ev.neg (by decide) (Ev.pos rfl ?_))
 by_cases h0:a3 < 0
 ·
  rw [decide_eq_false (show ¬ (0≤a3∧a3≤1099511627776) by omega)]
  refine Ev.pos h0 ?_
  refine Ev.succ ?_
  simp only [mosaicref18_Table_Set.j0]
  refine Ev.pos (by simp) (Ev.some_ ?_)
  rfl
 ·
  refine Ev.neg h0 ?_
  by_cases h1:a3 > 1099511627776
  ·
   rw [decide_eq_false (show ¬ (0≤a3∧a3≤1099511627776) by omega),decide_eq_true h1]
   refine Ev.succ ?_
   simp only [mosaicref18_Table_Set.j0]
   refine Ev.pos (by simp) (Ev.some_ ?_)
   rfl
  ·
   rw [decide_eq_true (show 0≤a3∧a3≤1099511627776 by omega),decide_eq_false h1]
   exact set5_ev room tmo l lb n a3 a4 hl hb (by omega)
/-! ### Meet -/
def insG (x:Rp):List Rp→List Rp
 | []=>[x]
 | y :: t=>if x.f0 < y.f0 then x :: y :: t else y :: insG x t
def metR (n x y now:Int):Rp:=⟨n,⟨x,y⟩,⟨#[]⟩,false,false,false,now,0,0⟩
def meetR (room:Int) (l:List Rp) (lb:List Int) (n x y now:Int):List Rp×Int :=
 if (1≤n∧n≤15)∧((-1048576≤x∧x≤1048576)∧(-1048576≤y∧y≤1048576))∧(0≤now∧now≤1099511627776) then (if n∈lb then (l,10) else if 0≤findI l n 0 then (l,5) else if room≤(l.length:Int) then (l,6) else (insG (metR n x y now) l,0)) else (l,1)
/-! ### Late, Expire -/
def lateR (tmo:Int) (l:List Rp) (now:Int):List Int:=if 0≤now∧now≤1099511627776 then (l.filter fun x=>decide (tmo < now - x.f6)).map (·.f0) else []
theorem withoutL_le (l:List Rp) (n:Int):(withoutL l n).length≤l.length:=List.length_filter_le _ _
theorem foldl_without:∀ (q:List Int) (l:List Rp),q.foldl withoutL l=l.filter fun x=>decide (x.f0 ∉ q)
 | [],l=>(List.filter_eq_self.2 (by simp)).symm
 | n :: t,l=>by
  rw [List.foldl_cons,foldl_without t,withoutL,List.filter_filter]
  apply List.filter_congr
  intro x _
  rw [Bool.eq_iff_iff]
  simp [and_comm]
def expR (tmo:Int) (l:List Rp) (now:Int):List Rp:=l.filter fun x=>decide (x.f0 ∉ lateR tmo l now)
/-! ### Roll -/
def rollR (x:Rp):Rp:={ x with f7:=0,f8:=x.f7 }
theorem roll_ev (room tmo:Int) (l:List Rp) (lb:List Int) (hl:l.length < 1000000) (hn:(l.map (·.f0)).Nodup):∀ (d i:Nat),i+d=l.length→Ev (fun k=>mosaicref18_Table_Roll.l0 k (i:Int) room tmo ((l.take i).map rollR ++ l.drop i) lb) (room,tmo,l.map rollR,lb)
 | 0,i,h=>by
  refine Ev.succ ?_
  simp only [mosaicref18_Table_Roll.l0]
  refine Ev.neg (by simp;omega) (Ev.some_ ?_)
  rw [List.drop_eq_nil_of_le (by omega),List.take_of_length_le (by omega),List.append_nil]
 | d+1,i,h=>by
  have hi:i < l.length:=by omega
  have hlen:((l.take i).map rollR ++ l.drop i).length=l.length:=by
   rw [List.length_append,List.length_map,List.length_take,List.length_drop]
   omega
  have hat:rd_T56 ((l.take i).map rollR ++ l.drop i) (i:Int)=l[i]:=by
   rw [rdp _ i (by omega),List.getElem_append_right (by rw [List.length_map,List.length_take];omega)]
   simp only [List.length_map,List.length_take,List.getElem_drop]
   congr 1
   omega
  have hstep:withL ((l.take i).map rollR ++ l.drop i) (rollR l[i])=(l.take (i+1)).map rollR ++ l.drop (i+1):=by
   have hne:∀ j (hj:j < l.length),j≠i→l[j].f0≠l[i].f0:=by
    intro j hj hji e
    have hp:=List.pairwise_iff_getElem.1 hn
    rcases Nat.lt_or_gt_of_ne hji with hlt|hgt
    ·
     exact hp j i (by rw [List.length_map];exact hj) (by rw [List.length_map];exact hi) hlt (by rw [List.getElem_map,List.getElem_map];exact e)
    ·
     exact hp i j (by rw [List.length_map];exact hi) (by rw [List.length_map];exact hj) hgt (by rw [List.getElem_map,List.getElem_map];exact e.symm)
   unfold withL
   rw [List.map_append,List.drop_eq_getElem_cons hi,List.map_cons,if_pos (show l[i].f0=(rollR l[i]).f0 from rfl),List.take_succ_eq_append_getElem hi,List.map_append,List.map_cons,List.map_nil,List.append_assoc]
   congr 1
   ·
    rw [List.map_map]
    apply List.map_congr_left
    intro x hx
    obtain ⟨j,hj,rfl⟩:=List.getElem_of_mem hx
    rw [List.length_take] at hj
    simp only [Function.comp_apply,List.getElem_take]
    rw [if_neg]
    exact hne j (by omega) (by omega)
   ·
    rw [List.singleton_append]
    congr 1
    conv=>rhs;rw [← List.map_id (l.drop (i+1))]
    apply List.map_congr_left
    intro x hx
    obtain ⟨j,hj,rfl⟩:=List.getElem_of_mem hx
    rw [List.length_drop] at hj
    simp only [List.getElem_drop,id]
    rw [if_neg]
    exact hne (i+1+j) (by omega) (by omega)
  refine Ev.succ ?_
  simp only [mosaicref18_Table_Roll.l0]
  rw [hat,hlen,wrap_succ i (by omega)]
  refine Ev.pos (by omega) (Ev.pos (by omega) (Ev.bind (with_f room tmo _ lb (rollR l[i]) (by rw [hlen];exact hl)) ?_))
  rw [hstep]
  exact roll_ev room tmo l lb hl hn d (i+1) (by omega)
theorem roll_f (room tmo:Int) (l:List Rp) (lb:List Int) (hl:l.length < 1000000) (hn:(l.map (·.f0)).Nodup):Ev (fun k=>mosaicref18_Table_Roll.f k room tmo l lb) (room,tmo,l.map rollR,lb) :=
 roll_ev room tmo l lb hl hn l.length 0 (by omega)
end Go.Proofs.Ytpejjpecdkbleaa.Pure
/-! #### MaPeers14 -/
/- peers: the reference's Meet, by hand. -/
namespace Go.Proofs.Ytpejjpecdkbleaa.Print
open Go.RowKit Go.Proofs.YtpejjpecdkbleaaW.PrintWords Go.Proofs.YtpejjpecdkbleaaW.PrintLast Go.Proofs.YtpejjpecdkbleaaW.PrintMore
open Go.Proofs.Ytpejjpecdkbleaa.Pure (withoutL without_f isPeer_f rtick_f rcheck_f has_f find_f findI insG metR meetR rdp)
set_option linter.unusedVariables false
set_option linter.unusedSimpArgs false
def rfC (p:Rf):List Value:=[.int .i64 p.f0,.int .i64 p.f1.f0,.int .i64 p.f1.f1,.string p.f2,.bool p.f3,.bool p.f4,.bool p.f5,.int .i64 p.f6,.int .i64 p.f7,.int .i64 p.f8]
theorem infoR:(Try.prog.info? 56).map (fun i=>(i.zero,i.size,i.bytes))=some (some (.agg (rfC z56).toArray),10,72):=by kernel_rfl
theorem infoRz:(Try.prog.info? 56).map (·.size)=some 10:=by kernel_rfl
theorem rf_one (p:Rf):(rfC p).toArray.all (·.oneCell')=true:=by simp [rfC,Value.oneCell']
/-- The blocks of Meet's variables. -/
structure MLoc (W W2:World) (room tmo:Int) (VL VB:Value) (x y:Int):Prop where
 b4:W2.heap[W.heap.size]?=some (.cells #[.int .i64 room,.int .i64 tmo,VL,VB] 45 (0,0))
 b6:W2.heap[W.heap.size+1]?=some (.cells #[.int .i64 x,.int .i64 y] 54 (0,0))
 b8:W2.heap[W.heap.size+2]?=some (.cells #[.int .i64 0,.int .i64 0,.slice none 0 0,.slice none 0 0] 45 (0,0))
 bel:Below W.heap.size W W2
section
variable {w W W2 W3:World} {VL VB:Value} {l:List Rf} {lb:List Int} {room tmo x y n now:Int} {g:Nat} {m:PM} {bs:List Bool}
theorem MLoc.below (h:MLoc W W2 room tmo VL VB x y) (hb:Below W2.heap.size W2 W3):MLoc W W3 room tmo VL VB x y:=⟨blk_below h.b4 hb,blk_below h.b6 hb,blk_below h.b8 hb,below_step h.bel hb⟩
theorem MLoc.start (W:World) (room tmo:Int) (VL VB:Value) (x y:Int):MLoc W (((W.alloc (.cells #[.int .i64 room,.int .i64 tmo,VL,VB] 45)).alloc (.cells #[.int .i64 x,.int .i64 y] 54)).alloc (.cells #[.int .i64 0,.int .i64 0,.slice none 0 0,.slice none 0 0] 45)) room tmo VL VB x y:=by
 refine ⟨blk_alloc (blk_alloc (heap_alloc_new W _) _) _,?_,?_,below_alloc (below_alloc (below_alloc (Below.refl _ _) _) _) _⟩
 ·
  have:=blk_alloc (heap_alloc_new (W.alloc (.cells #[.int .i64 room,.int .i64 tmo,VL,VB] 45)) (.cells #[.int .i64 x,.int .i64 y] 54)) (.cells #[.int .i64 0,.int .i64 0,.slice none 0 0,.slice none 0 0] 45)
  rwa [show (W.alloc (.cells #[.int .i64 room,.int .i64 tmo,VL,VB] 45)).heap.size=W.heap.size+1 by simp] at this
 ·
  have:=heap_alloc_new ((W.alloc (.cells #[.int .i64 room,.int .i64 tmo,VL,VB] 45)).alloc (.cells #[.int .i64 x,.int .i64 y] 54)) (.cells #[.int .i64 0,.int .i64 0,.slice none 0 0,.slice none 0 0] 45)
  rwa [show ((W.alloc (.cells #[.int .i64 room,.int .i64 tmo,VL,VB] 45)).alloc (.cells #[.int .i64 x,.int .i64 y] 54)).heap.size=W.heap.size+2 by simp] at this
theorem refTick_calls (n:Int) (W:World):Calls Try.prog 73 #[.int .i64 n] W fun e W2=>e=.returned (.bool (decide (0≤n∧n≤1099511627776)))∧Drawn0 W W2:=mosaicref18_Tick.calls n _ W (rtick_f n)
theorem refCheck_calls (x y:Int) (W:World):Calls Try.prog 68 #[.agg #[.int .i64 x,.int .i64 y]] W fun e W2=>e=.returned (.bool (decide ((-1048576≤x∧x≤1048576)∧(-1048576≤y∧y≤1048576))))∧Below W.heap.size W W2:=mosaicref17_Check.calls x y _ W (rcheck_f x y)
theorem RT.has_calls {A:Option Addr} {c:Nat} (r:RT w W VL (.slice A lb.length c) l lb) (n:Int) (hlb:lb.length < 1000000):Calls Try.prog 24 #[.slice A lb.length c,.int .i64 n] W fun e W2=>e=.returned (.bool (decide (n∈lb)))∧Drawn0 W W2:=by
 obtain ⟨k,hk⟩:=(has_f lb n hlb).rounds
 exact mosaicref09_Has.calls k A c lb n _ W (Kd.R_reads' r.rb).2.2 (Kd.R_reads' r.rb).2.1 hk
theorem RT.find_calls {A A':Option Addr} {c c':Nat} (r:RT w W (.slice A l.length c) (.slice A' lb.length c') l lb) (room tmo n:Int) (hl:l.length < 1000000):Calls Try.prog 26 #[.agg #[.int .i64 room,.int .i64 tmo,.slice A l.length c,.slice A' lb.length c'],.int .i64 n] W fun e W2=>e=.returned (.int .i64 (findI l n 0))∧Below W.heap.size W W2:=by
 obtain ⟨k,hk⟩:=(find_f room tmo l lb n hl).rounds
 exact mosaicref18_Table_Find.calls k room tmo A c l A' c' lb n _ W (Kd.R_reads' r.rl).2.2 (Kd.R_reads' r.rl).2.1 (Kd.R_reads' r.rb).2.2 (Kd.R_reads' r.rb).2.1 hk
set_option maxHeartbeats 1600000 in
set_option maxRecDepth 100000 in
theorem RT.Meet_peer (r:RT w W VL VB l lb) (hbel:Below w.heap.size w W) (h1:¬ (1≤n∧n≤15)):
  Calls Try.prog 53 #[.agg #[.int .i64 room,.int .i64 tmo,VL,VB],.int .i64 n,.agg #[.int .i64 x,.int .i64 y],.int .i64 now] W fun e W2=>∃ V2 V3,e=.returned (.tuple #[.agg #[.int .i64 room,.int .i64 tmo,V2,V3],.int .i64 1])∧RT w W2 V2 V3 l lb∧Kept W W2 (RefS W)∧Below w.heap.size w W2:=by
 obtain ⟨A1,c1,rfl⟩:=r.sl
 obtain ⟨A2,c2,rfl⟩:=r.sb
 have HR:=Aside0.mk r
 have HB:=Aside0.mk hbel
 have HL0:=Aside0.mk (MLoc.start W room tmo (.slice A1 l.length c1) (.slice A2 lb.length c2) x y)
 have HP:=Aside0.mk (show ∀ W,Calls Try.prog 69 #[.int .i64 n] W fun e W2=>e=.returned (.bool false)∧Drawn0 W W2 from fun W=>by have:=isPeer_calls n W;rwa [decide_eq_false h1] at this)
 clear h1 r hbel
 go_enter Try.func53,Try.ntmps53
 go_wp2_with fail
 refine (HP.out _).mono ?_
 rintro e W3 ⟨rfl,hd⟩
 have HL1:=Aside0.mk (HL0.out.below hd.below)
 clear hd HL0
 have k0:W3.cell? ⟨W.heap.size,0,none⟩=some (.int .i64 room):=(blk_cell HL1.out.b4 0)
 have k1:W3.cell? ⟨W.heap.size,1,none⟩=some (.int .i64 tmo):=(blk_cell HL1.out.b4 1)
 have k2:W3.cell? ⟨W.heap.size,2,none⟩=some (.slice A1 l.length c1):=(blk_cell HL1.out.b4 2)
 have k3:W3.cell? ⟨W.heap.size,3,none⟩=some (.slice A2 lb.length c2):=(blk_cell HL1.out.b4 3)
 go_wp2_with (refine store_own rfl 45 (.tmp 8) (.tmp 27) rfl (W.heap.size+2) #[.int .i64 room,.int .i64 tmo,.slice A1 l.length c1,.slice A2 lb.length c2] rfl rfl 45 _ HL1.out.b8 info45z rfl (t45_one _ _ _ _ _ _ _ _) ?_;intro W9 hW9 hb hk;have HB9:=Aside0.mk (show Below W.heap.size W W9 from HL1.out.bel.trans (hb.mono (by omega)));have HW9:=Aside0.mk hW9;clear hW9 hb hk)
 refine bodyPost_ret (v:=.tuple #[.agg #[.int .i64 room,.int .i64 tmo,.slice A1 l.length c1,.slice A2 lb.length c2],.int .i64 1]) (results_list (rs:=[.cell 8 45,.tmp 9]) rfl (by simp) (.cell (W.heap.size+2) 45 _ (0,0) _ rfl HW9.out Try.underlying45 rfl info45z (.tmp .nil))) rfl ?_
 exact ⟨_,_,rfl,HR.out.below HB9.out,Kept.of_below HB9.out _,below_step HB.out HB9.out⟩
set_option maxHeartbeats 1600000 in
set_option maxRecDepth 100000 in
theorem RT.Meet_place (r:RT w W VL VB l lb) (hbel:Below w.heap.size w W) (h1:1≤n∧n≤15) (h2:¬ ((-1048576≤x∧x≤1048576)∧(-1048576≤y∧y≤1048576))):
  Calls Try.prog 53 #[.agg #[.int .i64 room,.int .i64 tmo,VL,VB],.int .i64 n,.agg #[.int .i64 x,.int .i64 y],.int .i64 now] W fun e W2=>∃ V2 V3,e=.returned (.tuple #[.agg #[.int .i64 room,.int .i64 tmo,V2,V3],.int .i64 1])∧RT w W2 V2 V3 l lb∧Kept W W2 (RefS W)∧Below w.heap.size w W2:=by
 obtain ⟨A1,c1,rfl⟩:=r.sl
 obtain ⟨A2,c2,rfl⟩:=r.sb
 have HR:=Aside0.mk r
 have HB:=Aside0.mk hbel
 have HL0:=Aside0.mk (MLoc.start W room tmo (.slice A1 l.length c1) (.slice A2 lb.length c2) x y)
 have HP:=Aside0.mk (show ∀ W,Calls Try.prog 69 #[.int .i64 n] W fun e W2=>e=.returned (.bool true)∧Drawn0 W W2 from fun W=>by have:=isPeer_calls n W;rwa [decide_eq_true h1] at this)
 have HC:=Aside0.mk (show ∀ W,Calls Try.prog 68 #[.agg #[.int .i64 x,.int .i64 y]] W fun e W2=>e=.returned (.bool false)∧Below W.heap.size W W2 from fun W=>by have:=refCheck_calls x y W;rwa [decide_eq_false h2] at this)
 clear h1 h2 r hbel
 go_enter Try.func53,Try.ntmps53
 go_wp2_with fail
 refine (HP.out _).mono ?_
 rintro e W3 ⟨rfl,hd⟩
 have HL1:=Aside0.mk (HL0.out.below hd.below)
 clear hd HL0
 have x0:W3.cell? ⟨W.heap.size+1,0,none⟩=some (.int .i64 x):=blk_cell HL1.out.b6 0
 have x1:W3.cell? ⟨W.heap.size+1,1,none⟩=some (.int .i64 y):=blk_cell HL1.out.b6 1
 go_wp2_with fail
 refine (HC.out _).mono ?_
 rintro e W4 ⟨rfl,hd⟩
 have HL2:=Aside0.mk (HL1.out.below hd)
 clear hd HL1
 clear x0 x1
 have k0:W4.cell? ⟨W.heap.size,0,none⟩=some (.int .i64 room):=(blk_cell HL2.out.b4 0)
 have k1:W4.cell? ⟨W.heap.size,1,none⟩=some (.int .i64 tmo):=(blk_cell HL2.out.b4 1)
 have k2:W4.cell? ⟨W.heap.size,2,none⟩=some (.slice A1 l.length c1):=(blk_cell HL2.out.b4 2)
 have k3:W4.cell? ⟨W.heap.size,3,none⟩=some (.slice A2 lb.length c2):=(blk_cell HL2.out.b4 3)
 go_wp2_with (refine store_own rfl 45 (.tmp 8) (.tmp 27) rfl (W.heap.size+2) #[.int .i64 room,.int .i64 tmo,.slice A1 l.length c1,.slice A2 lb.length c2] rfl rfl 45 _ HL2.out.b8 info45z rfl (t45_one _ _ _ _ _ _ _ _) ?_;intro W9 hW9 hb hk;have HB9:=Aside0.mk (show Below W.heap.size W W9 from HL2.out.bel.trans (hb.mono (by omega)));have HW9:=Aside0.mk hW9;clear hW9 hb hk)
 refine bodyPost_ret (v:=.tuple #[.agg #[.int .i64 room,.int .i64 tmo,.slice A1 l.length c1,.slice A2 lb.length c2],.int .i64 1]) (results_list (rs:=[.cell 8 45,.tmp 9]) rfl (by simp) (.cell (W.heap.size+2) 45 _ (0,0) _ rfl HW9.out Try.underlying45 rfl info45z (.tmp .nil))) rfl ?_
 exact ⟨_,_,rfl,HR.out.below HB9.out,Kept.of_below HB9.out _,below_step HB.out HB9.out⟩
set_option maxHeartbeats 1600000 in
set_option maxRecDepth 100000 in
theorem RT.Meet_now (r:RT w W VL VB l lb) (hbel:Below w.heap.size w W) (h1:1≤n∧n≤15) (h2:(-1048576≤x∧x≤1048576)∧(-1048576≤y∧y≤1048576)) (h3:¬ (0≤now∧now≤1099511627776)):
  Calls Try.prog 53 #[.agg #[.int .i64 room,.int .i64 tmo,VL,VB],.int .i64 n,.agg #[.int .i64 x,.int .i64 y],.int .i64 now] W fun e W2=>∃ V2 V3,e=.returned (.tuple #[.agg #[.int .i64 room,.int .i64 tmo,V2,V3],.int .i64 1])∧RT w W2 V2 V3 l lb∧Kept W W2 (RefS W)∧Below w.heap.size w W2:=by
 obtain ⟨A1,c1,rfl⟩:=r.sl
 obtain ⟨A2,c2,rfl⟩:=r.sb
 have HR:=Aside0.mk r
 have HB:=Aside0.mk hbel
 have HL0:=Aside0.mk (MLoc.start W room tmo (.slice A1 l.length c1) (.slice A2 lb.length c2) x y)
 have HP:=Aside0.mk (show ∀ W,Calls Try.prog 69 #[.int .i64 n] W fun e W2=>e=.returned (.bool true)∧Drawn0 W W2 from fun W=>by have:=isPeer_calls n W;rwa [decide_eq_true h1] at this)
 have HC:=Aside0.mk (show ∀ W,Calls Try.prog 68 #[.agg #[.int .i64 x,.int .i64 y]] W fun e W2=>e=.returned (.bool true)∧Below W.heap.size W W2 from fun W=>by have:=refCheck_calls x y W;rwa [decide_eq_true h2] at this)
 have HK:=Aside0.mk (show ∀ W,Calls Try.prog 73 #[.int .i64 now] W fun e W2=>e=.returned (.bool false)∧Drawn0 W W2 from fun W=>by have:=refTick_calls now W;rwa [decide_eq_false h3] at this)
 clear h1 h2 h3 r hbel
 go_enter Try.func53,Try.ntmps53
 go_wp2_with fail
 refine (HP.out _).mono ?_
 rintro e W3 ⟨rfl,hd⟩
 have HL1:=Aside0.mk (HL0.out.below hd.below)
 clear hd HL0
 have x0:W3.cell? ⟨W.heap.size+1,0,none⟩=some (.int .i64 x):=blk_cell HL1.out.b6 0
 have x1:W3.cell? ⟨W.heap.size+1,1,none⟩=some (.int .i64 y):=blk_cell HL1.out.b6 1
 go_wp2_with fail
 refine (HC.out _).mono ?_
 rintro e W4 ⟨rfl,hd⟩
 have HL2:=Aside0.mk (HL1.out.below hd)
 clear hd HL1
 clear x0 x1
 go_wp2_with fail
 refine (HK.out _).mono ?_
 rintro e W5 ⟨rfl,hd⟩
 have HL3:=Aside0.mk (HL2.out.below hd.below)
 clear hd HL2
 have k0:W5.cell? ⟨W.heap.size,0,none⟩=some (.int .i64 room):=(blk_cell HL3.out.b4 0)
 have k1:W5.cell? ⟨W.heap.size,1,none⟩=some (.int .i64 tmo):=(blk_cell HL3.out.b4 1)
 have k2:W5.cell? ⟨W.heap.size,2,none⟩=some (.slice A1 l.length c1):=(blk_cell HL3.out.b4 2)
 have k3:W5.cell? ⟨W.heap.size,3,none⟩=some (.slice A2 lb.length c2):=(blk_cell HL3.out.b4 3)
 go_wp2_with (refine store_own rfl 45 (.tmp 8) (.tmp 27) rfl (W.heap.size+2) #[.int .i64 room,.int .i64 tmo,.slice A1 l.length c1,.slice A2 lb.length c2] rfl rfl 45 _ HL3.out.b8 info45z rfl (t45_one _ _ _ _ _ _ _ _) ?_;intro W9 hW9 hb hk;have HB9:=Aside0.mk (show Below W.heap.size W W9 from HL3.out.bel.trans (hb.mono (by omega)));have HW9:=Aside0.mk hW9;clear hW9 hb hk)
 refine bodyPost_ret (v:=.tuple #[.agg #[.int .i64 room,.int .i64 tmo,.slice A1 l.length c1,.slice A2 lb.length c2],.int .i64 1]) (results_list (rs:=[.cell 8 45,.tmp 9]) rfl (by simp) (.cell (W.heap.size+2) 45 _ (0,0) _ rfl HW9.out Try.underlying45 rfl info45z (.tmp .nil))) rfl ?_
 exact ⟨_,_,rfl,HR.out.below HB9.out,Kept.of_below HB9.out _,below_step HB.out HB9.out⟩
set_option maxHeartbeats 1600000 in
set_option maxRecDepth 100000 in
theorem RT.Meet_ban (r:RT w W VL VB l lb) (hbel:Below w.heap.size w W) (h1:1≤n∧n≤15) (h2:(-1048576≤x∧x≤1048576)∧(-1048576≤y∧y≤1048576)) (h3:0≤now∧now≤1099511627776) (hl:l.length < 1000000) (hlb:lb.length < 1000000) (h4:n∈lb):
  Calls Try.prog 53 #[.agg #[.int .i64 room,.int .i64 tmo,VL,VB],.int .i64 n,.agg #[.int .i64 x,.int .i64 y],.int .i64 now] W fun e W2=>∃ V2 V3,e=.returned (.tuple #[.agg #[.int .i64 room,.int .i64 tmo,V2,V3],.int .i64 10])∧RT w W2 V2 V3 l lb∧Kept W W2 (RefS W)∧Below w.heap.size w W2:=by
 obtain ⟨A1,c1,rfl⟩:=r.sl
 obtain ⟨A2,c2,rfl⟩:=r.sb
 have HR:=Aside0.mk r
 have HB:=Aside0.mk hbel
 have HL0:=Aside0.mk (MLoc.start W room tmo (.slice A1 l.length c1) (.slice A2 lb.length c2) x y)
 have HP:=Aside0.mk (show ∀ W,Calls Try.prog 69 #[.int .i64 n] W fun e W2=>e=.returned (.bool true)∧Drawn0 W W2 from fun W=>by have:=isPeer_calls n W;rwa [decide_eq_true h1] at this)
 have HC:=Aside0.mk (show ∀ W,Calls Try.prog 68 #[.agg #[.int .i64 x,.int .i64 y]] W fun e W2=>e=.returned (.bool true)∧Below W.heap.size W W2 from fun W=>by have:=refCheck_calls x y W;rwa [decide_eq_true h2] at this)
 have HK:=Aside0.mk (show ∀ W,Calls Try.prog 73 #[.int .i64 now] W fun e W2=>e=.returned (.bool true)∧Drawn0 W W2 from fun W=>by have:=refTick_calls now W;rwa [decide_eq_true h3] at this)
 have HLL:=Aside0.mk (And.intro hl hlb)
 have H4:=Aside0.mk h4
 clear h1 h2 h3 h4 r hbel hl hlb
 go_enter Try.func53,Try.ntmps53
 go_wp2_with fail
 refine (HP.out _).mono ?_
 rintro e W3 ⟨rfl,hd⟩
 have HL1:=Aside0.mk (HL0.out.below hd.below)
 clear hd HL0
 have x0:W3.cell? ⟨W.heap.size+1,0,none⟩=some (.int .i64 x):=blk_cell HL1.out.b6 0
 have x1:W3.cell? ⟨W.heap.size+1,1,none⟩=some (.int .i64 y):=blk_cell HL1.out.b6 1
 go_wp2_with fail
 refine (HC.out _).mono ?_
 rintro e W4 ⟨rfl,hd⟩
 have HL2:=Aside0.mk (HL1.out.below hd)
 clear hd HL1
 clear x0 x1
 go_wp2_with fail
 refine (HK.out _).mono ?_
 rintro e W5 ⟨rfl,hd⟩
 have HL3:=Aside0.mk (HL2.out.below hd.below)
 clear hd HL2
 have k3:W5.cell? ⟨W.heap.size,3,none⟩=some (.slice A2 lb.length c2):=(blk_cell HL3.out.b4 3)
 go_wp2_with fail
 have hcon:=(HR.out.below HL3.out.bel).has_calls n HLL.out.2
 rw [decide_eq_true H4.out] at hcon
 refine hcon.mono ?_
 rintro e W6 ⟨rfl,hd⟩
 have HL4:=Aside0.mk (HL3.out.below hd.below)
 clear hd HL3 k3 hcon
 have k0:W6.cell? ⟨W.heap.size,0,none⟩=some (.int .i64 room):=(blk_cell HL4.out.b4 0)
 have k1:W6.cell? ⟨W.heap.size,1,none⟩=some (.int .i64 tmo):=(blk_cell HL4.out.b4 1)
 have k2:W6.cell? ⟨W.heap.size,2,none⟩=some (.slice A1 l.length c1):=(blk_cell HL4.out.b4 2)
 have k3:W6.cell? ⟨W.heap.size,3,none⟩=some (.slice A2 lb.length c2):=(blk_cell HL4.out.b4 3)
 go_wp2_with (refine store_own rfl 45 (.tmp 8) (.tmp 32) rfl (W.heap.size+2) #[.int .i64 room,.int .i64 tmo,.slice A1 l.length c1,.slice A2 lb.length c2] rfl rfl 45 _ HL4.out.b8 info45z rfl (t45_one _ _ _ _ _ _ _ _) ?_;intro W9 hW9 hb hk;have HB9:=Aside0.mk (show Below W.heap.size W W9 from HL4.out.bel.trans (hb.mono (by omega)));have HW9:=Aside0.mk hW9;clear hW9 hb hk)
 refine bodyPost_ret (v:=.tuple #[.agg #[.int .i64 room,.int .i64 tmo,.slice A1 l.length c1,.slice A2 lb.length c2],.int .i64 10]) (results_list (rs:=[.cell 8 45,.tmp 9]) rfl (by simp) (.cell (W.heap.size+2) 45 _ (0,0) _ rfl HW9.out Try.underlying45 rfl info45z (.tmp .nil))) rfl ?_
 exact ⟨_,_,rfl,HR.out.below HB9.out,Kept.of_below HB9.out _,below_step HB.out HB9.out⟩
set_option maxHeartbeats 1600000 in
set_option maxRecDepth 100000 in
theorem RT.Meet_there (r:RT w W VL VB l lb) (hbel:Below w.heap.size w W) (h1:1≤n∧n≤15) (h2:(-1048576≤x∧x≤1048576)∧(-1048576≤y∧y≤1048576)) (h3:0≤now∧now≤1099511627776) (hl:l.length < 1000000) (hlb:lb.length < 1000000) (h4:n ∉ lb) (h5:0≤findI l n 0):
  Calls Try.prog 53 #[.agg #[.int .i64 room,.int .i64 tmo,VL,VB],.int .i64 n,.agg #[.int .i64 x,.int .i64 y],.int .i64 now] W fun e W2=>∃ V2 V3,e=.returned (.tuple #[.agg #[.int .i64 room,.int .i64 tmo,V2,V3],.int .i64 5])∧RT w W2 V2 V3 l lb∧Kept W W2 (RefS W)∧Below w.heap.size w W2:=by
 obtain ⟨A1,c1,rfl⟩:=r.sl
 obtain ⟨A2,c2,rfl⟩:=r.sb
 have HR:=Aside0.mk r
 have HB:=Aside0.mk hbel
 have HL0:=Aside0.mk (MLoc.start W room tmo (.slice A1 l.length c1) (.slice A2 lb.length c2) x y)
 have HP:=Aside0.mk (show ∀ W,Calls Try.prog 69 #[.int .i64 n] W fun e W2=>e=.returned (.bool true)∧Drawn0 W W2 from fun W=>by have:=isPeer_calls n W;rwa [decide_eq_true h1] at this)
 have HC:=Aside0.mk (show ∀ W,Calls Try.prog 68 #[.agg #[.int .i64 x,.int .i64 y]] W fun e W2=>e=.returned (.bool true)∧Below W.heap.size W W2 from fun W=>by have:=refCheck_calls x y W;rwa [decide_eq_true h2] at this)
 have HK:=Aside0.mk (show ∀ W,Calls Try.prog 73 #[.int .i64 now] W fun e W2=>e=.returned (.bool true)∧Drawn0 W W2 from fun W=>by have:=refTick_calls now W;rwa [decide_eq_true h3] at this)
 have HLL:=Aside0.mk (And.intro hl hlb)
 have H4:=Aside0.mk h4
 clear h1 h2 h3 h4 r hbel hl hlb
 go_enter Try.func53,Try.ntmps53
 go_wp2_with fail
 refine (HP.out _).mono ?_
 rintro e W3 ⟨rfl,hd⟩
 have HL1:=Aside0.mk (HL0.out.below hd.below)
 clear hd HL0
 have x0:W3.cell? ⟨W.heap.size+1,0,none⟩=some (.int .i64 x):=blk_cell HL1.out.b6 0
 have x1:W3.cell? ⟨W.heap.size+1,1,none⟩=some (.int .i64 y):=blk_cell HL1.out.b6 1
 go_wp2_with fail
 refine (HC.out _).mono ?_
 rintro e W4 ⟨rfl,hd⟩
 have HL2:=Aside0.mk (HL1.out.below hd)
 clear hd HL1
 clear x0 x1
 go_wp2_with fail
 refine (HK.out _).mono ?_
 rintro e W5 ⟨rfl,hd⟩
 have HL3:=Aside0.mk (HL2.out.below hd.below)
 clear hd HL2
 have k3:W5.cell? ⟨W.heap.size,3,none⟩=some (.slice A2 lb.length c2):=(blk_cell HL3.out.b4 3)
 go_wp2_with fail
 have hcon:=(HR.out.below HL3.out.bel).has_calls n HLL.out.2
 rw [decide_eq_false H4.out] at hcon
 refine hcon.mono ?_
 rintro e W6 ⟨rfl,hd⟩
 have HL4:=Aside0.mk (HL3.out.below hd.below)
 clear hd HL3 k3 hcon
 have k0:W6.cell? ⟨W.heap.size,0,none⟩=some (.int .i64 room):=(blk_cell HL4.out.b4 0)
 have k1:W6.cell? ⟨W.heap.size,1,none⟩=some (.int .i64 tmo):=(blk_cell HL4.out.b4 1)
 have k2:W6.cell? ⟨W.heap.size,2,none⟩=some (.slice A1 l.length c1):=(blk_cell HL4.out.b4 2)
 have k3:W6.cell? ⟨W.heap.size,3,none⟩=some (.slice A2 lb.length c2):=(blk_cell HL4.out.b4 3)
 go_wp2_with fail
 refine ((HR.out.below HL4.out.bel).find_calls room tmo n HLL.out.1).mono ?_
 rintro e W7 ⟨rfl,hd⟩
 have HL5:=Aside0.mk (HL4.out.below hd)
 clear hd HL4 k0 k1 k2 k3
 have k0:W7.cell? ⟨W.heap.size,0,none⟩=some (.int .i64 room):=(blk_cell HL5.out.b4 0)
 have k1:W7.cell? ⟨W.heap.size,1,none⟩=some (.int .i64 tmo):=(blk_cell HL5.out.b4 1)
 have k2:W7.cell? ⟨W.heap.size,2,none⟩=some (.slice A1 l.length c1):=(blk_cell HL5.out.b4 2)
 have k3:W7.cell? ⟨W.heap.size,3,none⟩=some (.slice A2 lb.length c2):=(blk_cell HL5.out.b4 3)
 go_wp2_with (refine store_own rfl 45 (.tmp 8) (.tmp 37) rfl (W.heap.size+2) #[.int .i64 room,.int .i64 tmo,.slice A1 l.length c1,.slice A2 lb.length c2] rfl rfl 45 _ HL5.out.b8 info45z rfl (t45_one _ _ _ _ _ _ _ _) ?_;intro W9 hW9 hb hk;have HB9:=Aside0.mk (show Below W.heap.size W W9 from HL5.out.bel.trans (hb.mono (by omega)));have HW9:=Aside0.mk hW9;clear hW9 hb hk)
 refine bodyPost_ret (v:=.tuple #[.agg #[.int .i64 room,.int .i64 tmo,.slice A1 l.length c1,.slice A2 lb.length c2],.int .i64 5]) (results_list (rs:=[.cell 8 45,.tmp 9]) rfl (by simp) (.cell (W.heap.size+2) 45 _ (0,0) _ rfl HW9.out Try.underlying45 rfl info45z (.tmp .nil))) rfl ?_
 exact ⟨_,_,rfl,HR.out.below HB9.out,Kept.of_below HB9.out _,below_step HB.out HB9.out⟩
set_option maxHeartbeats 1600000 in
set_option maxRecDepth 100000 in
theorem RT.Meet_full (r:RT w W VL VB l lb) (hbel:Below w.heap.size w W) (h1:1≤n∧n≤15) (h2:(-1048576≤x∧x≤1048576)∧(-1048576≤y∧y≤1048576)) (h3:0≤now∧now≤1099511627776) (hl:l.length < 1000000) (hlb:lb.length < 1000000) (h4:n ∉ lb) (h5:findI l n 0 < 0) (h6:room≤(l.length:Int)):
  Calls Try.prog 53 #[.agg #[.int .i64 room,.int .i64 tmo,VL,VB],.int .i64 n,.agg #[.int .i64 x,.int .i64 y],.int .i64 now] W fun e W2=>∃ V2 V3,e=.returned (.tuple #[.agg #[.int .i64 room,.int .i64 tmo,V2,V3],.int .i64 6])∧RT w W2 V2 V3 l lb∧Kept W W2 (RefS W)∧Below w.heap.size w W2:=by
 obtain ⟨A1,c1,rfl⟩:=r.sl
 obtain ⟨A2,c2,rfl⟩:=r.sb
 have HR:=Aside0.mk r
 have HB:=Aside0.mk hbel
 have HL0:=Aside0.mk (MLoc.start W room tmo (.slice A1 l.length c1) (.slice A2 lb.length c2) x y)
 have HP:=Aside0.mk (show ∀ W,Calls Try.prog 69 #[.int .i64 n] W fun e W2=>e=.returned (.bool true)∧Drawn0 W W2 from fun W=>by have:=isPeer_calls n W;rwa [decide_eq_true h1] at this)
 have HC:=Aside0.mk (show ∀ W,Calls Try.prog 68 #[.agg #[.int .i64 x,.int .i64 y]] W fun e W2=>e=.returned (.bool true)∧Below W.heap.size W W2 from fun W=>by have:=refCheck_calls x y W;rwa [decide_eq_true h2] at this)
 have HK:=Aside0.mk (show ∀ W,Calls Try.prog 73 #[.int .i64 now] W fun e W2=>e=.returned (.bool true)∧Drawn0 W W2 from fun W=>by have:=refTick_calls now W;rwa [decide_eq_true h3] at this)
 have HLL:=Aside0.mk (And.intro hl hlb)
 have H4:=Aside0.mk h4
 clear h1 h2 h3 h4 r hbel hl hlb
 go_enter Try.func53,Try.ntmps53
 go_wp2_with fail
 refine (HP.out _).mono ?_
 rintro e W3 ⟨rfl,hd⟩
 have HL1:=Aside0.mk (HL0.out.below hd.below)
 clear hd HL0
 have x0:W3.cell? ⟨W.heap.size+1,0,none⟩=some (.int .i64 x):=blk_cell HL1.out.b6 0
 have x1:W3.cell? ⟨W.heap.size+1,1,none⟩=some (.int .i64 y):=blk_cell HL1.out.b6 1
 go_wp2_with fail
 refine (HC.out _).mono ?_
 rintro e W4 ⟨rfl,hd⟩
 have HL2:=Aside0.mk (HL1.out.below hd)
 clear hd HL1
 clear x0 x1
 go_wp2_with fail
 refine (HK.out _).mono ?_
 rintro e W5 ⟨rfl,hd⟩
 have HL3:=Aside0.mk (HL2.out.below hd.below)
 clear hd HL2
 have k3:W5.cell? ⟨W.heap.size,3,none⟩=some (.slice A2 lb.length c2):=(blk_cell HL3.out.b4 3)
 go_wp2_with fail
 have hcon:=(HR.out.below HL3.out.bel).has_calls n HLL.out.2
 rw [decide_eq_false H4.out] at hcon
 refine hcon.mono ?_
 rintro e W6 ⟨rfl,hd⟩
 have HL4:=Aside0.mk (HL3.out.below hd.below)
 clear hd HL3 k3 hcon
 have k0:W6.cell? ⟨W.heap.size,0,none⟩=some (.int .i64 room):=(blk_cell HL4.out.b4 0)
 have k1:W6.cell? ⟨W.heap.size,1,none⟩=some (.int .i64 tmo):=(blk_cell HL4.out.b4 1)
 have k2:W6.cell? ⟨W.heap.size,2,none⟩=some (.slice A1 l.length c1):=(blk_cell HL4.out.b4 2)
 have k3:W6.cell? ⟨W.heap.size,3,none⟩=some (.slice A2 lb.length c2):=(blk_cell HL4.out.b4 3)
 go_wp2_with fail
 refine ((HR.out.below HL4.out.bel).find_calls room tmo n HLL.out.1).mono ?_
 rintro e W7 ⟨rfl,hd⟩
 have HL5:=Aside0.mk (HL4.out.below hd)
 clear hd HL4 k0 k1 k2 k3
 have k0:W7.cell? ⟨W.heap.size,0,none⟩=some (.int .i64 room):=(blk_cell HL5.out.b4 0)
 have k1:W7.cell? ⟨W.heap.size,1,none⟩=some (.int .i64 tmo):=(blk_cell HL5.out.b4 1)
 have k2:W7.cell? ⟨W.heap.size,2,none⟩=some (.slice A1 l.length c1):=(blk_cell HL5.out.b4 2)
 have k3:W7.cell? ⟨W.heap.size,3,none⟩=some (.slice A2 lb.length c2):=(blk_cell HL5.out.b4 3)
 go_wp2_with (refine store_own rfl 45 (.tmp 8) (.tmp 44) rfl (W.heap.size+2) #[.int .i64 room,.int .i64 tmo,.slice A1 l.length c1,.slice A2 lb.length c2] rfl rfl 45 _ HL5.out.b8 info45z rfl (t45_one _ _ _ _ _ _ _ _) ?_;intro W9 hW9 hb hk;have HB9:=Aside0.mk (show Below W.heap.size W W9 from HL5.out.bel.trans (hb.mono (by omega)));have HW9:=Aside0.mk hW9;clear hW9 hb hk)
 refine bodyPost_ret (v:=.tuple #[.agg #[.int .i64 room,.int .i64 tmo,.slice A1 l.length c1,.slice A2 lb.length c2],.int .i64 6]) (results_list (rs:=[.cell 8 45,.tmp 9]) rfl (by simp) (.cell (W.heap.size+2) 45 _ (0,0) _ rfl HW9.out Try.underlying45 rfl info45z (.tmp .nil))) rfl ?_
 exact ⟨_,_,rfl,HR.out.below HB9.out,Kept.of_below HB9.out _,below_step HB.out HB9.out⟩
set_option maxHeartbeats 1600000 in
set_option maxRecDepth 100000 in
theorem RT.Meet_ok (r:RT w W VL VB l lb) (hbel:Below w.heap.size w W) (h1:1≤n∧n≤15) (h2:(-1048576≤x∧x≤1048576)∧(-1048576≤y∧y≤1048576)) (h3:0≤now∧now≤1099511627776) (hl:l.length < 1000000) (hlb:lb.length < 1000000) (h4:n ∉ lb) (h5:findI l n 0 < 0) (h6:(l.length:Int) < room):
  Calls Try.prog 53 #[.agg #[.int .i64 room,.int .i64 tmo,VL,VB],.int .i64 n,.agg #[.int .i64 x,.int .i64 y],.int .i64 now] W fun e W2=>∃ V2 V3,e=.returned (.tuple #[.agg #[.int .i64 room,.int .i64 tmo,V2,V3],.int .i64 0])∧RT w W2 V2 V3 (insG (metR n x y now) l) lb∧Kept W W2 (RefS W)∧Below w.heap.size w W2:=by
 obtain ⟨A1,c1,rfl⟩:=r.sl
 obtain ⟨A2,c2,rfl⟩:=r.sb
 have HR:=Aside0.mk r
 have HB:=Aside0.mk hbel
 have HL0:=Aside0.mk (MLoc.start W room tmo (.slice A1 l.length c1) (.slice A2 lb.length c2) x y)
 have HP:=Aside0.mk (show ∀ W,Calls Try.prog 69 #[.int .i64 n] W fun e W2=>e=.returned (.bool true)∧Drawn0 W W2 from fun W=>by have:=isPeer_calls n W;rwa [decide_eq_true h1] at this)
 have HC:=Aside0.mk (show ∀ W,Calls Try.prog 68 #[.agg #[.int .i64 x,.int .i64 y]] W fun e W2=>e=.returned (.bool true)∧Below W.heap.size W W2 from fun W=>by have:=refCheck_calls x y W;rwa [decide_eq_true h2] at this)
 have HK:=Aside0.mk (show ∀ W,Calls Try.prog 73 #[.int .i64 now] W fun e W2=>e=.returned (.bool true)∧Drawn0 W W2 from fun W=>by have:=refTick_calls now W;rwa [decide_eq_true h3] at this)
 have HLL:=Aside0.mk (And.intro hl hlb)
 have H4:=Aside0.mk h4
 have hd5:decide (0≤findI l n 0)=false:=decide_eq_false (by omega)
 have hd6:decide (room≤(l.length:Int))=false:=decide_eq_false (by omega)
 clear h1 h2 h3 h4 r hbel hl hlb
 go_enter Try.func53,Try.ntmps53
 go_wp2_with fail
 refine (HP.out _).mono ?_
 rintro e W3 ⟨rfl,hd⟩
 have HL1:=Aside0.mk (HL0.out.below hd.below)
 clear hd HL0
 have x0:W3.cell? ⟨W.heap.size+1,0,none⟩=some (.int .i64 x):=blk_cell HL1.out.b6 0
 have x1:W3.cell? ⟨W.heap.size+1,1,none⟩=some (.int .i64 y):=blk_cell HL1.out.b6 1
 go_wp2_with fail
 refine (HC.out _).mono ?_
 rintro e W4 ⟨rfl,hd⟩
 have HL2:=Aside0.mk (HL1.out.below hd)
 clear hd HL1
 clear x0 x1
 go_wp2_with fail
 refine (HK.out _).mono ?_
 rintro e W5 ⟨rfl,hd⟩
 have HL3:=Aside0.mk (HL2.out.below hd.below)
 clear hd HL2
 have k3:W5.cell? ⟨W.heap.size,3,none⟩=some (.slice A2 lb.length c2):=(blk_cell HL3.out.b4 3)
 go_wp2_with fail
 have hcon:=(HR.out.below HL3.out.bel).has_calls n HLL.out.2
 rw [decide_eq_false H4.out] at hcon
 refine hcon.mono ?_
 rintro e W6 ⟨rfl,hd⟩
 have HL4:=Aside0.mk (HL3.out.below hd.below)
 clear hd HL3 k3 hcon
 have k0:W6.cell? ⟨W.heap.size,0,none⟩=some (.int .i64 room):=(blk_cell HL4.out.b4 0)
 have k1:W6.cell? ⟨W.heap.size,1,none⟩=some (.int .i64 tmo):=(blk_cell HL4.out.b4 1)
 have k2:W6.cell? ⟨W.heap.size,2,none⟩=some (.slice A1 l.length c1):=(blk_cell HL4.out.b4 2)
 have k3:W6.cell? ⟨W.heap.size,3,none⟩=some (.slice A2 lb.length c2):=(blk_cell HL4.out.b4 3)
 go_wp2_with fail
 refine ((HR.out.below HL4.out.bel).find_calls room tmo n HLL.out.1).mono ?_
 rintro e W7 ⟨rfl,hd⟩
 have HL5:=Aside0.mk (HL4.out.below hd)
 clear hd HL4 k0 k1 k2 k3
 have k0:W7.cell? ⟨W.heap.size,0,none⟩=some (.int .i64 room):=(blk_cell HL5.out.b4 0)
 have k1:W7.cell? ⟨W.heap.size,1,none⟩=some (.int .i64 tmo):=(blk_cell HL5.out.b4 1)
 have k2:W7.cell? ⟨W.heap.size,2,none⟩=some (.slice A1 l.length c1):=(blk_cell HL5.out.b4 2)
 have k3:W7.cell? ⟨W.heap.size,3,none⟩=some (.slice A2 lb.length c2):=(blk_cell HL5.out.b4 3)
 have x0:W7.cell? ⟨W.heap.size+1,0,none⟩=some (.int .i64 x):=blk_cell HL5.out.b6 0
 have x1:W7.cell? ⟨W.heap.size+1,1,none⟩=some (.int .i64 y):=blk_cell HL5.out.b6 1
 have HRM:=Aside0.mk h6
 go_wp2_with (refine store_own rfl 56 (.tmp 10) (.tmp 48) rfl W7.heap.size (rfC (metR n x y now)).toArray rfl rfl 56 _ (heap_alloc_new W7 _) infoRz rfl (rf_one _) ?_;intro W8 hW8 hb hk;have HL6:=Aside0.mk (HL5.out.below (Below.trans (below_alloc (Below.refl _ _) _) hb));have HX8:=Aside0.mk hW8;have HG8:=Aside0.mk (show W.heap.size≤W7.heap.size from HL5.out.bel.size);generalize W7.heap.size=g10 at *;clear hW8 hb hk HL5 k0 k1 k2 k3 x0 x1)
 have HLG:=Aside0.mk (show W.heap.size+2 < W8.heap.size from blk_lt HL6.out.b8)
 go_loopg [11,12,13] (l.length+1) (fun gg v11 v12 v13 wr=>∃ (i:Nat) (put:Bool) (acc:List Rf),v13=.int .i64 i∧v12=.bool put∧Aside0 (i+gg=l.length+1∧i≤l.length)∧Aside0 (acc.length≤i+1∧(put=false→acc.length≤i)∧acc ++ (if put=true then l.drop i else insG (metR n x y now) (l.drop i))=insG (metR n x y now) l)∧Aside0 (Kd.R k56 56 wr W.heap.size (fun k=>k≠g10) v11 acc)∧Aside0 (MLoc W wr room tmo (.slice A1 l.length c1) (.slice A2 lb.length c2) x y)∧Aside0 (wr.heap[g10]?=some (.cells (rfC (metR n x y now)).toArray 56 (0,0))))
 case atStart=>exact ⟨0,false,[],rfl,rfl,⟨by omega,by omega⟩,⟨by simp,by simp,by simp⟩,⟨Kd.R_nil _ _ _ _ _⟩,HL6,HX8⟩
 case round =>
  clear HL6 HX8 HLG
  obtain ⟨i,put,acc,rfl,rfl,HG,HI,HO,HL,HX⟩:=hrel
  have hll:=HLL.out.1
  have k2:wr.cell? ⟨W.heap.size,2,none⟩=some (.slice A1 l.length c1):=(blk_cell HL.out.b4 2)
  have y0:wr.cell? ⟨g10,0,none⟩=some (.int .i64 n):=blk_cell HX.out 0
  have y1:wr.cell? ⟨g10,1,none⟩=some (.int .i64 x):=blk_cell HX.out 1
  have y2:wr.cell? ⟨g10,2,none⟩=some (.int .i64 y):=blk_cell HX.out 2
  have y3:wr.cell? ⟨g10,3,none⟩=some (.string ⟨#[]⟩):=blk_cell HX.out 3
  have y4:wr.cell? ⟨g10,4,none⟩=some (.bool false):=blk_cell HX.out 4
  have y5:wr.cell? ⟨g10,5,none⟩=some (.bool false):=blk_cell HX.out 5
  have y6:wr.cell? ⟨g10,6,none⟩=some (.bool false):=blk_cell HX.out 6
  have y7:wr.cell? ⟨g10,7,none⟩=some (.int .i64 now):=blk_cell HX.out 7
  have y8:wr.cell? ⟨g10,8,none⟩=some (.int .i64 0):=blk_cell HX.out 8
  have y9:wr.cell? ⟨g10,9,none⟩=some (.int .i64 0):=blk_cell HX.out 9
  by_cases hlt:(i:Int) < (l.length:Int)
  ·
   obtain ⟨gg,rfl⟩:∃ m,gk=m+1:=⟨gk - 1,by have:=HG.out;omega⟩
   have hil:i < l.length:=by omega
   obtain ⟨ad,hA,z0,z1,z2,z3,z4,z5,z6,z7,z8,z9⟩:=at_T56 (Kd.R_reads' (HR.out.below HL.out.bel).rl).2.2 (i:Int) (by omega) hlt
   rw [Int.toNat_natCast] at z0 z1 z2 z3 z4 z5 z6 z7 z8 z9
   subst hA
   have HRD:=Aside0.mk (rdp l i hil)
   have HDR:=Aside0.mk (Go.Proofs.Ytpejjpecdkbleaa.Pure.drop_cons_get l i hil)
   rw [← HRD.out] at HDR
   obtain ⟨q,hq_⟩:∃ q,rd_T56 l (i:Int)=q:=⟨_,rfl⟩
   rw [hq_] at z0 z1 z2 z3 z4 z5 z6 z7 z8 z9 HDR
   have HQ:=Aside0.mk hq_
   clear HRD hq_
   cases put with
   | true =>
    go_wp2_with (first
     | ((with_reducible refine gate_builtin (b:=.append) (xs:=#[.tmp 72,.tmp 78]) rfl ?_);at_builtin;refine Kd.R_append k56 (w0:=wr) W.heap.size rfl (.tmp 72) (.tmp 78) 43 56 (.agg (rfC z56).toArray) 72 rfl Try.underlying43 infoR rfl (by decide) (by omega) _ acc q (rfC q) (fun k=>k≠g10) (fun _=>False) rfl rfl ?aP (fun _ hk=>hk.elim) ?aF ?aO ?aB ?aS ?aL ?_;(case aP=>exact k56_mkM _ _ _ q);(case aF=>exact fun k hk e=>by have:=blk_lt HX.out;omega);(case aO=>exact HO.out);(case aB=>exact Below.refl _ _);(case aS=>exact HL.out.bel.size);(case aL=>have h1:=HI.out.1;omega);intro v13 w7 ho hb hg hat;have HO7:=Aside0.mk ho;have HX7:=Aside0.mk (blk_grown HX.out hg (fun e=>absurd rfl (HO.out.1 g10 e.symm)));have HL7:=Aside0.mk (show MLoc W w7 room tmo (.slice (some ad) l.length c1) (.slice A2 lb.length c2) x y from ⟨blk_grown HL.out.b4 hg (Kd.R_ne HO.out HL.out.b4 (by decide)),blk_grown HL.out.b6 hg (Kd.R_ne HO.out HL.out.b6 (by decide)),blk_grown HL.out.b8 hg (Kd.R_ne HO.out HL.out.b8 (by decide)),HL.out.bel.trans hb⟩);clear ho hb hg hat HO))
    go_roundg gg
    case measure=>omega
    case rel =>
     refine ⟨i+1,true,acc ++ [q],by go_num,rfl,⟨by have:=HG.out;omega,by omega⟩,⟨by have:=HI.out.1;simp;omega,by simp,?_⟩,HO7,HL7,HX7⟩
     have h0:acc ++ l.drop i=insG (metR n x y now) l:=by simpa using HI.out.2.2
     rw [HDR.out] at h0
     rw [← h0]
     simp
   | false =>
    have HI2:=Aside0.mk (show acc.length≤i from HI.out.2.1 rfl)
    by_cases hq:n < q.f0
    ·
     have hd:decide (n < q.f0)=true:=decide_eq_true hq
     go_wp2_with (first
      | ((with_reducible refine gate_builtin (b:=.append) (xs:=#[.tmp 68,.tmp 70]) rfl ?_);at_builtin;refine Kd.R_append k56 (w0:=wr) W.heap.size rfl (.tmp 68) (.tmp 70) 43 56 (.agg (rfC z56).toArray) 72 rfl Try.underlying43 infoR rfl (by decide) (by omega) _ acc (metR n x y now) (rfC (metR n x y now)) (fun k=>k≠g10) (fun _=>False) rfl rfl ?aP (fun _ hk=>hk.elim) ?aF ?aO ?aB ?aS ?aL ?_;(case aP=>exact k56_mkM _ _ _ (metR n x y now));(case aF=>exact fun k hk e=>by have:=blk_lt HX.out;omega);(case aO=>exact HO.out);(case aB=>exact Below.refl _ _);(case aS=>exact HL.out.bel.size);(case aL=>have h1:=HI.out.1;omega);intro v13 w7 ho hb hg hat;have HO7:=Aside0.mk ho;have HX7:=Aside0.mk (blk_grown HX.out hg (fun e=>absurd rfl (HO.out.1 g10 e.symm)));have HL7:=Aside0.mk (show MLoc W w7 room tmo (.slice (some ad) l.length c1) (.slice A2 lb.length c2) x y from ⟨blk_grown HL.out.b4 hg (Kd.R_ne HO.out HL.out.b4 (by decide)),blk_grown HL.out.b6 hg (Kd.R_ne HO.out HL.out.b6 (by decide)),blk_grown HL.out.b8 hg (Kd.R_ne HO.out HL.out.b8 (by decide)),HL.out.bel.trans hb⟩);clear ho hb hg hat HO HL HX k2 y0 y1 y2 y3 y4 y5 y6 y7 y8 y9 z0 z1 z2 z3 z4 z5 z6 z7 z8 z9;obtain ⟨ad',hA',z0,z1,z2,z3,z4,z5,z6,z7,z8,z9⟩:=at_T56 (Kd.R_reads' (HR.out.below HL7.out.bel).rl).2.2 (i:Int) (by omega) hlt;rw [Int.toNat_natCast,HQ.out] at z0 z1 z2 z3 z4 z5 z6 z7 z8 z9;injection hA' with hA';subst hA';have k2:=(show w7.cell? ⟨W.heap.size,2,none⟩=some (.slice (some ad) l.length c1) from blk_cell HL7.out.b4 2))
      | ((with_reducible refine gate_builtin (b:=.append) (xs:=#[.tmp 72,.tmp 78]) rfl ?_);at_builtin;refine Kd.R_append k56 (w0:=w7) W.heap.size rfl (.tmp 72) (.tmp 78) 43 56 (.agg (rfC z56).toArray) 72 rfl Try.underlying43 infoR rfl (by decide) (by omega) _ (acc ++ [metR n x y now]) q (rfC q) (fun k=>k≠g10) (fun _=>False) rfl rfl ?aP (fun _ hk=>hk.elim) ?aF ?aO ?aB ?aS ?aL ?_;(case aP=>exact k56_mkM _ _ _ q);(case aF=>exact fun k hk e=>by have:=blk_lt HX7.out;omega);(case aO=>exact HO7.out);(case aB=>exact Below.refl _ _);(case aS=>exact HL7.out.bel.size);(case aL=>have h1:=HI.out.1;rw [List.length_append,List.length_singleton];omega);intro v14 w8 ho hb hg hat;have HO8:=Aside0.mk ho;have HX8:=Aside0.mk (blk_grown HX7.out hg (fun e=>absurd rfl (HO7.out.1 g10 e.symm)));have HL8:=Aside0.mk (show MLoc W w8 room tmo (.slice (some ad) l.length c1) (.slice A2 lb.length c2) x y from ⟨blk_grown HL7.out.b4 hg (Kd.R_ne HO7.out HL7.out.b4 (by decide)),blk_grown HL7.out.b6 hg (Kd.R_ne HO7.out HL7.out.b6 (by decide)),blk_grown HL7.out.b8 hg (Kd.R_ne HO7.out HL7.out.b8 (by decide)),HL7.out.bel.trans hb⟩);clear ho hb hg hat HO7))
     go_roundg gg
     case measure=>omega
     case rel =>
      refine ⟨i+1,true,acc ++ [metR n x y now] ++ [q],by go_num,rfl,⟨by have:=HG.out;omega,by omega⟩,⟨by have:=HI2.out;simp;omega,by simp,?_⟩,HO8,HL8,HX8⟩
      have h0:acc ++ insG (metR n x y now) (l.drop i)=insG (metR n x y now) l:=by simpa using HI.out.2.2
      rw [HDR.out,insG,if_pos (show (metR n x y now).f0 < q.f0 from hq)] at h0
      rw [← h0]
      simp
    ·
     have hd:decide (n < q.f0)=false:=decide_eq_false hq
     go_wp2_with (first
      | ((with_reducible refine gate_builtin (b:=.append) (xs:=#[.tmp 72,.tmp 78]) rfl ?_);at_builtin;refine Kd.R_append k56 (w0:=wr) W.heap.size rfl (.tmp 72) (.tmp 78) 43 56 (.agg (rfC z56).toArray) 72 rfl Try.underlying43 infoR rfl (by decide) (by omega) _ acc q (rfC q) (fun k=>k≠g10) (fun _=>False) rfl rfl ?aP (fun _ hk=>hk.elim) ?aF ?aO ?aB ?aS ?aL ?_;(case aP=>exact k56_mkM _ _ _ q);(case aF=>exact fun k hk e=>by have:=blk_lt HX.out;omega);(case aO=>exact HO.out);(case aB=>exact Below.refl _ _);(case aS=>exact HL.out.bel.size);(case aL=>have h1:=HI.out.1;omega);intro v13 w7 ho hb hg hat;have HO7:=Aside0.mk ho;have HX7:=Aside0.mk (blk_grown HX.out hg (fun e=>absurd rfl (HO.out.1 g10 e.symm)));have HL7:=Aside0.mk (show MLoc W w7 room tmo (.slice (some ad) l.length c1) (.slice A2 lb.length c2) x y from ⟨blk_grown HL.out.b4 hg (Kd.R_ne HO.out HL.out.b4 (by decide)),blk_grown HL.out.b6 hg (Kd.R_ne HO.out HL.out.b6 (by decide)),blk_grown HL.out.b8 hg (Kd.R_ne HO.out HL.out.b8 (by decide)),HL.out.bel.trans hb⟩);clear ho hb hg hat HO))
     go_roundg gg
     case measure=>omega
     case rel =>
      refine ⟨i+1,false,acc ++ [q],by go_num,rfl,⟨by have:=HG.out;omega,by omega⟩,⟨by have:=HI2.out;simp;omega,fun _=>by have:=HI2.out;simp;omega,?_⟩,HO7,HL7,HX7⟩
      have h0:acc ++ insG (metR n x y now) (l.drop i)=insG (metR n x y now) l:=by simpa using HI.out.2.2
      rw [HDR.out,insG,if_neg (show ¬ (metR n x y now).f0 < q.f0 from Int.not_lt.2 hq)] at h0
      rw [← h0]
      simp
  ·
   obtain rfl:i=l.length:=by have:=HG.out;omega
   cases put with
   | true =>
    have HO7:=Aside0.mk (show Kd.R k56 56 wr W.heap.size (fun k=>k≠g10) _ (insG (metR n x y now) l) by
     have h0:acc=insG (metR n x y now) l:=by simpa using HI.out.2.2
     rw [← h0]
     exact HO.out)
    obtain ⟨A9,c9,hv⟩:=Kd.R_slice HO7.out
    rw [hv] at HO7
    subst hv
    obtain ⟨Z,hZ⟩:∃ Z,Z=(insG (metR n x y now) l).length:=⟨_,rfl⟩
    rw [← hZ] at HO7 ⊢
    clear k2 y0 y1 y2 y3 y4 y5 y6 y7 y8 y9 HO hZ
    have k0:=(show wr.cell? ⟨W.heap.size,0,none⟩=some (.int .i64 room) from blk_cell HL.out.b4 0)
    have k1:=(show wr.cell? ⟨W.heap.size,1,none⟩=some (.int .i64 tmo) from blk_cell HL.out.b4 1)
    have k2:=(show wr.cell? ⟨W.heap.size,2,none⟩=some (.slice A1 l.length c1) from blk_cell HL.out.b4 2)
    have k3:=(show wr.cell? ⟨W.heap.size,3,none⟩=some (.slice A2 lb.length c2) from blk_cell HL.out.b4 3)
    have zf2:=(show wr.frozen? ⟨W.heap.size,2,none⟩=false from blk_frozen HL.out.b4 2)
    go_wp2_with (refine store_own rfl 45 (.tmp 8) (.tmp 88) rfl (W.heap.size+2) #[.int .i64 room,.int .i64 tmo,.slice A9 Z c9,.slice A2 lb.length c2] rfl rfl 45 _ (blk_far HL.out.b8 (by simp) _) info45z rfl (t45_one _ _ _ _ _ _ _ _) ?_;intro W9 hW9 hb hk;have HB9:=Aside0.mk hb;have HK9:=Aside0.mk hk;have HW9:=Aside0.mk hW9;clear hW9 hb hk)
    refine bodyPost_ret (v:=.tuple #[.agg #[.int .i64 room,.int .i64 tmo,.slice A9 Z c9,.slice A2 lb.length c2],.int .i64 0]) (results_list (rs:=[.cell 8 45,.tmp 9]) rfl (by simp) (.cell (W.heap.size+2) 45 _ (0,0) _ rfl HW9.out Try.underlying45 rfl info45z (.tmp .nil))) rfl ?_
    have h7:RT w wr (.slice A9 Z c9) (.slice A2 lb.length c2) (insG (metR n x y now) l) lb:=⟨Kd.R_lower (Kd.R_mono HO7.out (fun _ _=>trivial)) HB.out.size,(HR.out.below HL.out.bel).rb⟩
    have h8:RT w (wr.setCell ⟨W.heap.size,2,none⟩ (.slice A9 Z c9)) (.slice A9 Z c9) (.slice A2 lb.length c2) (insG (metR n x y now) l) lb:=h7.keep45 HL.out.b4 (KeepBut.set_ (KeepBut.refl _ _ _) 2 _)
    have hb9:Below W.heap.size W W9:=(HL.out.bel.setCell (Nat.le_refl _) _).trans (HB9.out.mono (by omega))
    exact ⟨_,_,rfl,h8.keep45 (blk_far HL.out.b8 (by simp) _) HK9.out,Kept.of_below hb9 _,below_step HB.out hb9⟩
   | false =>
    have HE:=Aside0.mk (show acc ++ [metR n x y now]=insG (metR n x y now) l by simpa [insG] using HI.out.2.2)
    go_wp2_with (first
     | ((with_reducible refine gate_builtin (b:=.append) (xs:=#[.tmp 82,.tmp 84]) rfl ?_);at_builtin;refine Kd.R_append k56 (w0:=wr) W.heap.size rfl (.tmp 82) (.tmp 84) 43 56 (.agg (rfC z56).toArray) 72 rfl Try.underlying43 infoR rfl (by decide) (by omega) _ acc (metR n x y now) (rfC (metR n x y now)) (fun k=>k≠g10) (fun _=>False) rfl rfl ?aP (fun _ hk=>hk.elim) ?aF ?aO ?aB ?aS ?aL ?_;(case aP=>exact k56_mkM _ _ _ (metR n x y now));(case aF=>exact fun k hk e=>by have:=blk_lt HX.out;omega);(case aO=>exact HO.out);(case aB=>exact Below.refl _ _);(case aS=>exact HL.out.bel.size);(case aL=>have h1:=HI.out.1;omega);intro v13 w7 ho hb hg hat;have HO7:=Aside0.mk ho;have HX7:=Aside0.mk (blk_grown HX.out hg (fun e=>absurd rfl (HO.out.1 g10 e.symm)));have HL7:=Aside0.mk (show MLoc W w7 room tmo (.slice (A1) l.length c1) (.slice A2 lb.length c2) x y from ⟨blk_grown HL.out.b4 hg (Kd.R_ne HO.out HL.out.b4 (by decide)),blk_grown HL.out.b6 hg (Kd.R_ne HO.out HL.out.b6 (by decide)),blk_grown HL.out.b8 hg (Kd.R_ne HO.out HL.out.b8 (by decide)),HL.out.bel.trans hb⟩);have HO8:=Aside0.mk (show Kd.R k56 56 w7 W.heap.size (fun k=>k≠g10) v13 (insG (metR n x y now) l) from HE.out ▸ HO7.out);clear ho hb hg hat HO HO7 HL HX k2 y0 y1 y2 y3 y4 y5 y6 y7 y8 y9;obtain ⟨A9,c9,hv⟩:=Kd.R_slice HO8.out;subst hv;obtain ⟨Z,hZ⟩:∃ Z,Z=(insG (metR n x y now) l).length:=⟨_,rfl⟩;rw [← hZ] at HO8;rw [← hZ];clear hZ;have k0:=(show w7.cell? ⟨W.heap.size,0,none⟩=some (.int .i64 room) from blk_cell HL7.out.b4 0);have k1:=(show w7.cell? ⟨W.heap.size,1,none⟩=some (.int .i64 tmo) from blk_cell HL7.out.b4 1);have k2:=(show w7.cell? ⟨W.heap.size,2,none⟩=some (.slice A1 l.length c1) from blk_cell HL7.out.b4 2);have k3:=(show w7.cell? ⟨W.heap.size,3,none⟩=some (.slice A2 lb.length c2) from blk_cell HL7.out.b4 3);have zf2:=(show w7.frozen? ⟨W.heap.size,2,none⟩=false from blk_frozen HL7.out.b4 2))
     | (refine store_own rfl 45 (.tmp 8) (.tmp 88) rfl (W.heap.size+2) #[.int .i64 room,.int .i64 tmo,.slice A9 Z c9,.slice A2 lb.length c2] rfl rfl 45 _ (blk_far HL7.out.b8 (by simp) _) info45z rfl (t45_one _ _ _ _ _ _ _ _) ?_;intro W9 hW9 hb hk;have HB9:=Aside0.mk hb;have HK9:=Aside0.mk hk;have HW9:=Aside0.mk hW9;clear hW9 hb hk))
    refine bodyPost_ret (v:=.tuple #[.agg #[.int .i64 room,.int .i64 tmo,.slice A9 Z c9,.slice A2 lb.length c2],.int .i64 0]) (results_list (rs:=[.cell 8 45,.tmp 9]) rfl (by simp) (.cell (W.heap.size+2) 45 _ (0,0) _ rfl HW9.out Try.underlying45 rfl info45z (.tmp .nil))) rfl ?_
    have h7:RT w w7 (.slice A9 Z c9) (.slice A2 lb.length c2) (insG (metR n x y now) l) lb:=⟨Kd.R_lower (Kd.R_mono HO8.out (fun _ _=>trivial)) HB.out.size,(HR.out.below HL7.out.bel).rb⟩
    have h8:RT w (w7.setCell ⟨W.heap.size,2,none⟩ (.slice A9 Z c9)) (.slice A9 Z c9) (.slice A2 lb.length c2) (insG (metR n x y now) l) lb:=h7.keep45 HL7.out.b4 (KeepBut.set_ (KeepBut.refl _ _ _) 2 _)
    have hb9:Below W.heap.size W W9:=(HL7.out.bel.setCell (Nat.le_refl _) _).trans (HB9.out.mono (by omega))
    exact ⟨_,_,rfl,h8.keep45 (blk_far HL7.out.b8 (by simp) _) HK9.out,Kept.of_below hb9 _,below_step HB.out hb9⟩
end
end Go.Proofs.Ytpejjpecdkbleaa.Print
/-! #### MaPeers15 -/
/- peers: the reference's Late and Expire, by hand; all references at once. -/
namespace Go.Proofs.Ytpejjpecdkbleaa.Print
open Go.RowKit Go.Proofs.YtpejjpecdkbleaaW.PrintWords Go.Proofs.YtpejjpecdkbleaaW.PrintLast Go.Proofs.YtpejjpecdkbleaaW.PrintMore
open Go.Proofs.Ytpejjpecdkbleaa.Pure (withoutL without_f isPeer_f rtick_f rcheck_f has_f find_f findI insG metR meetR rdp lateR expR foldl_without withoutL_le drop_cons_get rd_lt)
set_option linter.unusedVariables false
set_option linter.unusedSimpArgs false
section
variable {w W W2 W3:World} {VL VB:Value} {l:List Rf} {lb:List Int} {room tmo x y n now:Int} {g:Nat} {m:PM} {bs:List Bool}
theorem lateR_no (h:¬ (0≤now∧now≤1099511627776)):lateR tmo l now=[]:=by unfold lateR;rw [if_neg h]
def lateI (tmo now:Int) (l:List Rf):List Int:=(l.filter fun x=>decide (tmo < now - x.f6)).map (·.f0)
theorem lateR_yes (h:0≤now∧now≤1099511627776):lateR tmo l now=lateI tmo now l:=by unfold lateR;rw [if_pos h];rfl
theorem lateI_take {i:Nat} (h:i < l.length):lateI tmo now (l.take (i+1))=lateI tmo now (l.take i) ++ (if decide (tmo < now - l[i].f6)=true then [l[i].f0] else []):=by
 unfold lateI
 rw [List.take_succ_eq_append_getElem h,List.filter_append,List.map_append]
 congr 1
 rw [List.filter_cons]
 split <;> rfl
theorem lateI_le (l:List Rf):(lateI tmo now l).length≤l.length:=by
 unfold lateI
 rw [List.length_map]
 exact List.length_filter_le _ _
set_option maxHeartbeats 1600000 in
set_option maxRecDepth 100000 in
theorem late_calls (r:Kd.R k56 56 W w.heap.size (fun _=>True) VL l) (A2:Option Addr) (n2 c2:Nat) (now:Int) (hl:l.length < 1000000) (hs:∀ x∈l,0≤x.f6∧x.f6≤1099511627776) :
  Calls Try.prog 57 #[.agg #[.int .i64 room,.int .i64 tmo,VL,.slice A2 n2 c2],.int .i64 now] W fun e W2=>∃ v,e=.returned v∧Kd.R (Kd.int .i64) 3 W2 W.heap.size (fun _=>True) v (lateR tmo l now)∧Below W.heap.size W W2:=by
 obtain ⟨A1,c1,rfl⟩:=Kd.R_slice r
 have HR:=Aside0.mk r
 have HS:=Aside0.mk hs
 have HLL:=Aside0.mk hl
 have hb0:(W.alloc (.cells #[.int .i64 room,.int .i64 tmo,.slice A1 l.length c1,.slice A2 n2 c2] 45)).heap[W.heap.size]?=some (.cells #[.int .i64 room,.int .i64 tmo,.slice A1 l.length c1,.slice A2 n2 c2] 45 (0,0)):=heap_alloc_new W _
 have HB0:=Aside0.mk hb0
 have HBW:=Aside0.mk (below_alloc (Below.refl W.heap.size W) (.cells #[.int .i64 room,.int .i64 tmo,.slice A1 l.length c1,.slice A2 n2 c2] 45))
 clear r hs hl hb0
 by_cases hk:0≤now∧now≤1099511627776
 ·
  rw [lateR_yes hk]
  have HK:=Aside0.mk (show ∀ W,Calls Try.prog 73 #[.int .i64 now] W fun e W2=>e=.returned (.bool true)∧Drawn0 W W2 from fun W=>by have:=refTick_calls now W;rwa [decide_eq_true hk] at this)
  have HKK:=Aside0.mk hk
  clear hk
  go_enter Try.func57,Try.ntmps57
  go_wp2_with fail
  go_loopg [5,6] (l.length+1) (fun gg v5 v6 wr=>∃ (i:Nat),v6=.int .i64 i∧Aside0 (i+gg=l.length+1∧i≤l.length)∧Aside0 (Kd.R (Kd.int .i64) 3 wr W.heap.size (fun _=>True) v5 (lateI tmo now (l.take i)))∧Aside0 (wr.heap[W.heap.size]?=some (.cells #[.int .i64 room,.int .i64 tmo,.slice A1 l.length c1,.slice A2 n2 c2] 45 (0,0)))∧Aside0 (Below W.heap.size W wr))
  case atStart=>exact ⟨0,rfl,⟨by omega,by omega⟩,⟨by rw [List.take_zero];exact Kd.R_nil _ _ _ _ _⟩,HB0,HBW⟩
  case round =>
   clear HB0 HBW
   obtain ⟨i,rfl,HG,HO,HB,HBW⟩:=hrel
   have hll:=HLL.out
   have k1:wr.cell? ⟨W.heap.size,1,none⟩=some (.int .i64 tmo):=(blk_cell HB.out 1)
   have k2:wr.cell? ⟨W.heap.size,2,none⟩=some (.slice A1 l.length c1):=(blk_cell HB.out 2)
   by_cases hlt:(i:Int) < (l.length:Int)
   ·
    obtain ⟨gg,rfl⟩:∃ m,gk=m+1:=⟨gk - 1,by have:=HG.out;omega⟩
    have hil:i < l.length:=by omega
    obtain ⟨ad,hA,z0,z1,z2,z3,z4,z5,z6,z7,z8,z9⟩:=at_T56 (Kd.R_reads' (Kd.R_below HR.out HBW.out)).2.2 (i:Int) (by omega) hlt
    rw [Int.toNat_natCast] at z0 z7
    subst hA
    have HTK:=Aside0.mk (lateI_take (tmo:=tmo) (now:=now) hil)
    have hq_:=rdp l i hil
    rw [← hq_] at HTK
    have hm:=HS.out l[i] (List.getElem_mem hil)
    rw [← hq_] at hm
    generalize rd_T56 l (i:Int)=q at z0 z7 HTK hm hq_
    have hov:IntKind.i64.wrap (now - q.f6)=now - q.f6:=IntWalk.i64_in _ (by have:=HKK.out;omega)
    clear hq_ hm z1 z2 z3 z4 z5 z6 z8 z9
    by_cases hL:tmo < now - q.f6
    ·
     have hd:decide (tmo < now - q.f6)=true:=decide_eq_true hL
     rw [hd,if_pos rfl] at HTK
     clear hL
     go_wp2_with fail
     go_quiet ((go_at_call 73;exact Calls.quiet_of ((HK.out _).mono (fun e W2 h=>⟨h.1,h.2.out⟩))))
     have HO2:=Aside0.mk (Kd.R_drewN HO.out nq)
     have HB2:=Aside0.mk (blk_drewN HB.out nq)
     have HBW2:=Aside0.mk (pw_below_drewN HBW.out nq)
     clear HO HB HBW
     go_wp2_with (first
      | ((with_reducible refine gate_builtin (b:=.append) (xs:=#[.tmp 29,.tmp 36]) rfl ?_);at_builtin;refine Kd.R_append (Kd.int .i64) (w0:=wr.drewN nq) W.heap.size rfl (.tmp 29) (.tmp 36) 22 3 (.int .i64 0) 8 rfl Try.underlying22 info3 rfl (by decide) (by omega) _ (lateI tmo now (l.take i)) q.f0 [.int .i64 q.f0] (fun _=>True) (fun _=>False) rfl rfl rfl (fun _ hk=>hk.elim) (fun _ _=>trivial) ?aO ?aB ?aS ?aL ?_;(case aO=>exact HO2.out);(case aB=>exact Below.refl _ _);(case aS=>exact HBW2.out.size);(case aL=>have h1:=lateI_le (tmo:=tmo) (now:=now) (l.take i);rw [List.length_take] at h1;omega);intro v13 w7 ho hb hg hat;have HO7:=Aside0.mk ho;have HB7:=Aside0.mk (blk_grown HB2.out hg (Kd.R_ne HO2.out HB2.out (by decide)));have HBW7:=Aside0.mk (show Below W.heap.size W w7 from HBW2.out.trans hb);clear ho hb hg hat HO2))
     go_roundg gg
     case measure=>omega
     case rel=>exact ⟨i+1,by go_num,⟨by have:=HG.out;omega,by omega⟩,⟨by rw [HTK.out];exact HO7.out⟩,HB7,HBW7⟩
    ·
     have hd:decide (tmo < now - q.f6)=false:=decide_eq_false hL
     rw [hd,if_neg (by simp),List.append_nil] at HTK
     clear hL
     go_wp2_with fail
     go_quiet ((go_at_call 73;exact Calls.quiet_of ((HK.out _).mono (fun e W2 h=>⟨h.1,h.2.out⟩))))
     go_wp2_with fail
     go_roundg gg
     case measure=>omega
     case rel=>exact ⟨i+1,by go_num,⟨by have:=HG.out;omega,by omega⟩,⟨by rw [HTK.out];exact Kd.R_drewN HO.out nq⟩,⟨HB.out⟩,⟨pw_below_drewN HBW.out nq⟩⟩
   ·
    obtain rfl:i=l.length:=by have:=HG.out;omega
    have HO2:=Aside0.mk (show Kd.R (Kd.int .i64) 3 wr W.heap.size (fun _=>True) _ (lateI tmo now l) by have:=HO.out;rwa [List.take_length] at this)
    obtain ⟨A5,c5,hv⟩:=Kd.R_slice HO2.out
    subst hv
    clear HO
    go_wp2_with fail
    go_ret
    exact ⟨_,rfl,HO2.out,HBW.out⟩
 ·
  rw [lateR_no hk]
  have HK:=Aside0.mk (show ∀ W,Calls Try.prog 73 #[.int .i64 now] W fun e W2=>e=.returned (.bool false)∧Drawn0 W W2 from fun W=>by have:=refTick_calls now W;rwa [decide_eq_false hk] at this)
  clear hk
  go_enter Try.func57,Try.ntmps57
  go_wp2_with fail
  go_loopg [5,6] (l.length+1) (fun gg v5 v6 wr=>∃ (i:Nat),v6=.int .i64 i∧v5=.slice none 0 0∧Aside0 (i+gg=l.length+1∧i≤l.length)∧Aside0 (wr.heap[W.heap.size]?=some (.cells #[.int .i64 room,.int .i64 tmo,.slice A1 l.length c1,.slice A2 n2 c2] 45 (0,0)))∧Aside0 (Below W.heap.size W wr))
  case atStart=>exact ⟨0,rfl,rfl,⟨by omega,by omega⟩,HB0,HBW⟩
  case round =>
   clear HB0 HBW
   obtain ⟨i,rfl,rfl,HG,HB,HBW⟩:=hrel
   have hll:=HLL.out
   have k2:wr.cell? ⟨W.heap.size,2,none⟩=some (.slice A1 l.length c1):=(blk_cell HB.out 2)
   by_cases hlt:(i:Int) < (l.length:Int)
   ·
    obtain ⟨gg,rfl⟩:∃ m,gk=m+1:=⟨gk - 1,by have:=HG.out;omega⟩
    go_wp2_with fail
    go_quiet ((go_at_call 73;exact Calls.quiet_of ((HK.out _).mono (fun e W2 h=>⟨h.1,h.2.out⟩))))
    go_wp2_with fail
    go_roundg gg
    case measure=>omega
    case rel=>exact ⟨i+1,by go_num,rfl,⟨by have:=HG.out;omega,by omega⟩,⟨HB.out⟩,⟨pw_below_drewN HBW.out nq⟩⟩
   ·
    go_wp2_with fail
    go_ret
    exact ⟨_,rfl,Kd.R_nil _ _ _ _ _,HBW.out⟩
theorem RT.Late_calls (r:RT w W VL VB l lb) (now:Int) (hl:l.length < 1000000) (hs:∀ x∈l,0≤x.f6∧x.f6≤1099511627776) :
  Calls Try.prog 57 #[.agg #[.int .i64 room,.int .i64 tmo,VL,VB],.int .i64 now] W fun e W2=>∃ v,e=.returned v∧Kd.R (Kd.int .i64) 3 W2 W.heap.size (fun _=>True) v (lateR tmo l now)∧Below W.heap.size W W2:=by
 obtain ⟨A2,c2,rfl⟩:=r.sb
 exact late_calls r.rl A2 lb.length c2 now hl hs
/-- One without: what is left of the rows (it is asked where it stands). -/
theorem RT.without_calls (r:RT w W VL VB l lb) (hbel:Below w.heap.size w W) (room tmo n:Int) (hl:l.length < 1000000) :
  Calls Try.prog 74 #[.agg #[.int .i64 room,.int .i64 tmo,VL,VB],.int .i64 n] W fun e W2=>∃ V2 V3,e=.returned (.agg #[.int .i64 room,.int .i64 tmo,V2,V3])∧RT w W2 V2 V3 (withoutL l n) lb∧Kept W W2 (OwnB VB)∧Below w.heap.size w W2∧(∀ k,OwnB V3 k→OwnB VB k∨W.heap.size≤k):=by
 obtain ⟨A1,c1,rfl⟩:=r.sl
 obtain ⟨A2,c2,rfl⟩:=r.sb
 obtain ⟨k,hk⟩:=(without_f room tmo l lb n hl).rounds
 refine (mosaicref18_Table_without.calls k room tmo A1 c1 l (OwnB (.slice A2 lb.length c2)) (.slice A2 lb.length c2) lb n _ _ _ _ w W hbel (fun W_ hW=>(Kd.R_reads' (r.keptL hW)).2.2) (Kd.R_reads' r.rl).2.1 r.own hk).mono ?_
 rintro e W2 ⟨v2,v3,rfl,h2,h3,hb,hk⟩
 exact ⟨v2,v3,rfl,⟨Kd.R_mono h2 (fun _ _=>trivial),Kd.R_mono h3 (fun _ _=>trivial)⟩,hk,hb,fun k hk=>h3.1 k hk⟩
set_option maxHeartbeats 1600000 in
set_option maxRecDepth 100000 in
theorem RT.Expire_calls (r:RT w W VL VB l lb) (hbel:Below w.heap.size w W) (room tmo now:Int) (hl:l.length < 1000000) (hs:∀ x∈l,0≤x.f6∧x.f6≤1099511627776) :
  Calls Try.prog 56 #[.agg #[.int .i64 room,.int .i64 tmo,VL,VB],.int .i64 now] W fun e W2=>∃ V2 V3,e=.returned (.agg #[.int .i64 room,.int .i64 tmo,V2,V3])∧RT w W2 V2 V3 (expR tmo l now) lb∧Kept W W2 (OwnB VB)∧Below w.heap.size w W2:=by
 obtain ⟨A1,c1,rfl⟩:=r.sl
 obtain ⟨A2,c2,rfl⟩:=r.sb
 have HR:=Aside0.mk r
 have HB:=Aside0.mk hbel
 have HLL:=Aside0.mk (And.intro hl hs)
 have hb2:=(blk_alloc (heap_alloc_new W (.cells #[.int .i64 room,.int .i64 tmo,.slice A1 l.length c1,.slice A2 lb.length c2] 45)) (.cells #[.int .i64 0,.int .i64 0,.slice none 0 0,.slice none 0 0] 45))
 have hb4:=(heap_alloc_new (W.alloc (.cells #[.int .i64 room,.int .i64 tmo,.slice A1 l.length c1,.slice A2 lb.length c2] 45)) (.cells #[.int .i64 0,.int .i64 0,.slice none 0 0,.slice none 0 0] 45))
 rw [show (W.alloc (.cells #[.int .i64 room,.int .i64 tmo,.slice A1 l.length c1,.slice A2 lb.length c2] 45)).heap.size=W.heap.size+1 by simp] at hb4
 have hbw:Below W.heap.size W ((W.alloc (.cells #[.int .i64 room,.int .i64 tmo,.slice A1 l.length c1,.slice A2 lb.length c2] 45)).alloc (.cells #[.int .i64 0,.int .i64 0,.slice none 0 0,.slice none 0 0] 45)):=below_alloc (below_alloc (Below.refl _ _) _) _
 have HB4:=Aside0.mk hb4
 have HB2:=Aside0.mk hb2
 have HBW:=Aside0.mk hbw
 clear r hbel hl hs hb2 hb4 hbw
 go_enter Try.func56,Try.ntmps56
 go_wp2_with fail
 refine ((HR.out.below HBW.out).Late_calls now HLL.out.1 HLL.out.2).mono ?_
 rintro e W3 ⟨v,rfl,hv,hb3⟩
 have HBW3:=Aside0.mk (below_step HBW.out hb3)
 have HB23:=Aside0.mk (blk_below HB2.out hb3)
 have HB43:=Aside0.mk (blk_below HB4.out hb3)
 have HV:=Aside0.mk (Kd.R_lower hv HBW.out.size)
 have HV0:=Aside0.mk (show ∀ k,OwnB v k→W.heap.size≤k from fun k hk=>(Kd.R_bound HV.out).1 k hk |>.2.1)
 clear hv hb3 HB2 HB4 HBW
 obtain ⟨A5,c5,hv⟩:=Kd.R_slice HV.out
 subst hv
 have hqn:(lateR tmo l now).length≤l.length:=by
  unfold lateR
  split
  ·
   rw [List.length_map]
   exact List.length_filter_le _ _
  ·
   exact Nat.zero_le _
 have HQN:=Aside0.mk hqn
 obtain ⟨q,hq⟩:∃ q,lateR tmo l now=q:=⟨_,rfl⟩
 have HQ:=Aside0.mk hq
 rw [hq] at HV HQN HV0
 rw [hq]
 clear hqn hq
 go_wp2_with fail
 have HI0:=Aside0.mk (show ∀ k,OwnB (.slice A2 lb.length c2) k→(OwnB (.slice A2 lb.length c2) k∨W.heap.size≤k)∧¬ OwnB (.slice A5 q.length c5) k from fun k hk=>⟨.inl hk,fun hq=>by
  have h1:=HR.out.ownLt k hk
  have h2:=HV0.out k hq
  omega⟩)
 have HVQ:=Aside0.mk (show Kd.R (Kd.int .i64) 3 W3 w.heap.size (OwnB (.slice A5 q.length c5)) (.slice A5 q.length c5) q from Kd.R_flat (fun h=>h) (Kd.R_lower HV.out HB.out.size) (fun _ h _=>h))
 clear HV HV0
 go_loopg [6] (q.length+1) (fun gg v6 wr=>∃ (i:Nat) (V2 V3:Value),v6=.int .i64 i∧Aside0 (i+gg=q.length+1∧i≤q.length)∧Aside0 (RT w wr V2 V3 ((q.take i).foldl withoutL l) lb)∧Aside0 (Kd.R (Kd.int .i64) 3 wr w.heap.size (OwnB (.slice A5 q.length c5)) (.slice A5 q.length c5) q)∧Aside0 (wr.heap[W.heap.size]?=some (.cells #[.int .i64 room,.int .i64 tmo,V2,V3] 45 (0,0)))∧Aside0 (wr.heap[W.heap.size+1]?=some (.cells #[.int .i64 0,.int .i64 0,.slice none 0 0,.slice none 0 0] 45 (0,0)))∧Aside0 (Kept W wr (OwnB (.slice A2 lb.length c2)))∧Aside0 (Below w.heap.size w wr)∧Aside0 (∀ k,OwnB V3 k→(OwnB (.slice A2 lb.length c2) k∨W.heap.size≤k)∧¬ OwnB (.slice A5 q.length c5) k))
 case atStart=>exact ⟨0,_,_,rfl,⟨by omega,by omega⟩,⟨HR.out.below HBW3.out⟩,HVQ,HB23,HB43,⟨Kept.of_below HBW3.out _⟩,⟨below_step HB.out HBW3.out⟩,HI0⟩
 case round =>
  clear HVQ HB23 HB43 HBW3 HI0
  obtain ⟨i,V2,V3,rfl,HG,HT,HV,HN2,HN4,HKP,HBL,HI⟩:=hrel
  obtain ⟨A6,c6,rfl⟩:=HT.out.sl
  obtain ⟨A7,c7,rfl⟩:=HT.out.sb
  have hll:=HLL.out.1
  have hqn:=HQN.out
  have hcl:((q.take i).foldl withoutL l).length≤l.length:=by
   rw [foldl_without]
   exact List.length_filter_le _ _
  by_cases hlt:(i:Int) < (q.length:Int)
  ·
   obtain ⟨gg,rfl⟩:∃ m,gk=m+1:=⟨gk - 1,by have:=HG.out;omega⟩
   have hil:i < q.length:=by omega
   go_wp2_with fail
   refine wp_region_still_tail 5 (by kernel_rfl) (by kernel_rfl) ?_
   change wpStill _ _ wr.drew (fun a'=>wpList _ _ _ _ a' wr.drew) _ _
   have HT2:=Aside0.mk (HT.out.below (below_drew1 (Below.refl _ _)))
   have HV2:=Aside0.mk (Kd.R_drew HV.out)
   have HN22:=Aside0.mk (blk_drew HN2.out)
   have HN42:=Aside0.mk (blk_drew HN4.out)
   have HK2:=Aside0.mk HKP.out.drew
   have HBL2:=Aside0.mk (below_drew1 HBL.out)
   clear HT HV HN2 HN4 HKP HBL
   generalize wr.drew=w4 at HT2 HV2 HN22 HN42 HK2 HBL2 ⊢
   obtain ⟨ad,hA,hx⟩:=Kd.at_int (Kd.R_reads' HV2.out).2.2 (i:Int) (by omega) hlt
   rw [Int.toNat_natCast] at hx
   have HFS:=Aside0.mk (show (q.take (i+1)).foldl withoutL l=withoutL ((q.take i).foldl withoutL l) (rd q (i:Int)) by rw [List.take_succ_eq_append_getElem hil,List.foldl_append,rd_lt q i hil];rfl)
   subst hA
   generalize rd q (i:Int)=x at hx HFS
   have HT22:=HT2
   generalize (q.take i).foldl withoutL l=cur at HT2 HT22 HFS hcl HN22 ⊢
   clear HT22
   have k0:w4.cell? ⟨W.heap.size,0,none⟩=some (.int .i64 room):=blk_cell HN22.out 0
   have k1:w4.cell? ⟨W.heap.size,1,none⟩=some (.int .i64 tmo):=blk_cell HN22.out 1
   have k2:w4.cell? ⟨W.heap.size,2,none⟩=some (.slice A6 cur.length c6):=blk_cell HN22.out 2
   have k3:w4.cell? ⟨W.heap.size,3,none⟩=some (.slice A7 lb.length c7):=blk_cell HN22.out 3
   have i0:0≤(i:Int):=by omega
   simp only [List.take_succ_cons,List.take_zero,List.drop_succ_cons,List.drop_zero]
   repeat still_step
   try refine wpStill_nil ?_
   go_wp2_with fail
   refine (HT2.out.without_calls HBL2.out room tmo x (Nat.lt_of_le_of_lt hcl hll)).mono ?_
   rintro e w5 ⟨V4,V5,rfl,h4,hk5,hb5,ho5⟩
   obtain ⟨A8,c8,rfl⟩:=h4.sl
   obtain ⟨A9,c9,rfl⟩:=h4.sb
   have hn5:∀ {b t:Nat} {cells:Array Value},w4.heap[b]?=some (.cells cells t (0,0))→t≠3→w5.heap[b]?=some (.cells cells t (0,0)):=by
    intro b t cells hb ht
    refine blk_kept hb hk5 (fun ho=>?_)
    obtain ⟨c,hc⟩:=HT2.out.ownTy b ho
    rw [hb] at hc
    injection hc with hc
    injection hc with _ hc
    exact ht hc
   have HN25:=Aside0.mk (hn5 HN22.out (by decide))
   have HN45:=Aside0.mk (hn5 HN42.out (by decide))
   have HT5:=Aside0.mk h4
   have HBL5:=Aside0.mk hb5
   have HK5:=Aside0.mk (HK2.out.then_ hk5 (fun k hk=>(HI.out k hk).1))
   have HV5:=Aside0.mk (Kd.R_step HV2.out (fun k hk hlt=>hk5.2 k hlt (fun ho=>(HI.out k ho).2 hk)))
   have HI5:=Aside0.mk (show ∀ k,OwnB (.slice A9 lb.length c9) k→(OwnB (.slice A2 lb.length c2) k∨W.heap.size≤k)∧¬ OwnB (.slice (some ad) q.length c5) k from fun k hk=>by
    rcases ho5 k hk with h|h
    ·
     exact HI.out k h
    ·
     refine ⟨.inr (Nat.le_trans HK2.out.1 h),fun hq=>?_⟩
     have:=(Kd.R_bound HV2.out).1 k hq |>.2.2.1
     omega)
   clear h4 hk5 hb5 ho5 hn5 HT2 HBL2 HK2 HV2 HN22 HN42 HI k0 k1 k2 k3 hx
   go_wp2_with (refine store_own rfl 45 (.tmp 2) (.tmp 21) rfl W.heap.size #[.int .i64 room,.int .i64 tmo,.slice A8 (withoutL cur x).length c8,.slice A9 lb.length c9] rfl rfl 45 _ HN25.out info45z rfl (t45_one _ _ _ _ _ _ _ _) ?_;intro W6 hW6 hb hk;have HT6:=Aside0.mk (HT5.out.keep45 HN25.out hk);have HN26:=Aside0.mk hW6;have HN46:=Aside0.mk (hk.blk HN45.out (by omega) (by simp));have HK6:=Aside0.mk (HK5.out.of_keep hk (.inr (Nat.le_refl _)));have HBL6:=Aside0.mk (show Below w.heap.size w W6 from HBL5.out.trans (hb.mono HB.out.size));have HV6:=Aside0.mk (Kd.R_mono (Kd.R_keep (Kd.R_types HV5.out HN25.out (by decide)) hk (fun _ h=>h.2)) (fun _ h=>h.1));clear hW6 hb hk HT5 HN25 HN45 HK5 HBL5 HV5)
   go_roundg gg
   case measure=>omega
   case rel=>exact ⟨i+1,_,_,by go_num,⟨by have:=HG.out;omega,by omega⟩,⟨by rw [HFS.out];exact HT6.out⟩,HV6,HN26,HN46,HK6,HBL6,HI5⟩
  ·
   obtain rfl:i=q.length:=by have:=HG.out;omega
   have HT9:=Aside0.mk (show RT w wr (.slice A6 (expR tmo l now).length c6) (.slice A7 lb.length c7) (expR tmo l now) lb by
    have:=HT.out
    rw [List.take_length,foldl_without,← HQ.out] at this
    exact this)
   rw [List.take_length] at hcl
   have HE:=Aside0.mk (show ((q.take q.length).foldl withoutL l).length=(expR tmo l now).length by
    rw [List.take_length,foldl_without,← HQ.out]
    rfl)
   rw [HE.out] at HN2
   have k0:wr.cell? ⟨W.heap.size,0,none⟩=some (.int .i64 room):=blk_cell HN2.out 0
   have k1:wr.cell? ⟨W.heap.size,1,none⟩=some (.int .i64 tmo):=blk_cell HN2.out 1
   have k2:wr.cell? ⟨W.heap.size,2,none⟩=some (.slice A6 (expR tmo l now).length c6):=blk_cell HN2.out 2
   have k3:wr.cell? ⟨W.heap.size,3,none⟩=some (.slice A7 lb.length c7):=blk_cell HN2.out 3
   clear hcl HT HE
   go_wp2_with (refine store_own rfl 45 (.tmp 4) (.tmp 22) rfl (W.heap.size+1) #[.int .i64 room,.int .i64 tmo,.slice A6 (expR tmo l now).length c6,.slice A7 lb.length c7] rfl rfl 45 _ HN4.out info45z rfl (t45_one _ _ _ _ _ _ _ _) ?_;intro W6 hW6 hb hk;have HW6:=Aside0.mk hW6;have HHB:=Aside0.mk hb;have HHK:=Aside0.mk hk;clear hW6 hb hk)
   refine bodyPost_ret (v:=.agg #[.int .i64 room,.int .i64 tmo,.slice A6 (expR tmo l now).length c6,.slice A7 lb.length c7]) (results_cell_row rfl _ _ (W.heap.size+1) 45 _ (0,0) _ rfl HW6.out Try.underlying45 rfl (by kernel_rfl)) rfl ?_
   exact ⟨_,_,rfl,HT9.out.keep45 HN4.out HHK.out,HKP.out.of_keep HHK.out (.inr (by omega)),HBL.out.trans (HHB.out.mono (by have:=HB.out.size;omega))⟩
end
end Go.Proofs.Ytpejjpecdkbleaa.Print
/-! #### MaPeers16 -/
/- peers: acts on both tables: set. -/
namespace Go.Proofs.Ytpejjpecdkbleaa.Print
open Go.RowKit Go.Proofs.YtpejjpecdkbleaaW.PrintWords Go.Proofs.YtpejjpecdkbleaaW.PrintLast Go.Proofs.YtpejjpecdkbleaaW.PrintMore
open Go.Proofs.Ytpejjpecdkbleaa.Pure (withoutL findI insG metR meetR lateR expR setR leaveR leave_f rollR roll_f set0_f set1_f set2_f set3_f set4_f set5_f)
set_option linter.unusedVariables false
set_option linter.unusedSimpArgs false
section
variable {w W W0 W2 W3:World} {VL VB:Value} {l:List Rf} {lb:List Int} {room tmo x y n now kind node num:Int} {s:ByteArray} {on:Bool} {g:Nat} {m:PM} {bs:List Bool}
theorem RT.ty (r:RT w W VL VB l lb):Kd.R k56 56 W w.heap.size (tyAt 56 W) VL l∧Kd.R (Kd.int .i64) 3 W w.heap.size (tyAt 3 W) VB lb:=⟨r.tl,r.tb⟩
/-- What a reference leaves. -/
structure RefDid (w W W2:World) (V2 V3:Value) (l:List Rf) (lb:List Int):Prop where
 rt:RT w W2 V2 V3 l lb
 kept:Kept W W2 (RefS W)
 bel:Below w.heap.size w W2
theorem num_calls (b:Bool) (W:World):Calls Try.prog 76 #[.bool b] W fun e W2=>e=.returned (.int .i64 (if b=true then 1 else 0))∧W2=W:=by
 cases b
 all_goals
  go_enter Try.func76,Try.ntmps76
  go_wp2
  go_ret
  exact ⟨rfl,rfl⟩
theorem ref_set {k:Nat} {kd a3:Int} {a4:ByteArray} {l':List Rf} {c:Int} (r:RT w W VL VB l lb) (hb:Below w.heap.size w W) (room tmo n:Int) (h:mosaicref18_Table_Set.f k room tmo l lb n kd a3 a4=some (room,tmo,l',lb,c)) :
  Calls Try.prog 75 #[.agg #[.int .i64 room,.int .i64 tmo,VL,VB],.int .i64 n,.int .i64 kd,.int .i64 a3,.string a4] W fun e W2=>∃ V2 V3,e=.returned (.tuple #[.agg #[.int .i64 room,.int .i64 tmo,V2,V3],.int .i64 c])∧RefDid w W W2 V2 V3 l' lb:=by
 refine (mosaicref18_Table_Set.calls k room tmo _ VL l _ VB lb n kd a3 a4 _ _ _ _ _ w W hb r.tl r.tb h).mono ?_
 rintro e W2 ⟨v2,v3,rfl,h2,h3,h4,h5⟩
 exact ⟨v2,v3,rfl,⟨⟨Kd.R_mono h2 (fun _ _=>trivial),Kd.R_mono h3 (fun _ _=>trivial)⟩,h5,h4⟩⟩
theorem ref_leave (r:RT w W VL VB l lb) (hb:Below w.heap.size w W) (room tmo n:Int) (hl:l.length < 1000000) :
  Calls Try.prog 54 #[.agg #[.int .i64 room,.int .i64 tmo,VL,VB],.int .i64 n] W fun e W2=>∃ V2 V3,e=.returned (.tuple #[.agg #[.int .i64 room,.int .i64 tmo,V2,V3],.int .i64 (leaveR l n).2])∧RefDid w W W2 V2 V3 (leaveR l n).1 lb:=by
 obtain ⟨k,h⟩:=(leave_f room tmo l lb n hl).rounds
 refine (mosaicref18_Table_Leave.calls k room tmo _ VL l _ VB lb n _ _ _ _ _ w W hb r.tl r.tb h).mono ?_
 rintro e W2 ⟨v2,v3,rfl,h2,h3,h4,h5⟩
 exact ⟨v2,v3,rfl,⟨⟨Kd.R_mono h2 (fun _ _=>trivial),Kd.R_mono h3 (fun _ _=>trivial)⟩,h5,h4⟩⟩
theorem ref_roll (r:RT w W VL VB l lb) (hb:Below w.heap.size w W) (room tmo:Int) (hl:l.length < 1000000) (hn:(l.map (·.f0)).Nodup) :
  Calls Try.prog 59 #[.agg #[.int .i64 room,.int .i64 tmo,VL,VB]] W fun e W2=>∃ V2 V3,e=.returned (.agg #[.int .i64 room,.int .i64 tmo,V2,V3])∧RefDid w W W2 V2 V3 (l.map rollR) lb:=by
 obtain ⟨k,h⟩:=(roll_f room tmo l lb hl hn).rounds
 refine (mosaicref18_Table_Roll.calls k room tmo _ VL l _ VB lb _ _ _ _ w W hb r.tl r.tb h).mono ?_
 rintro e W2 ⟨v2,v3,rfl,h2,h3,h4,h5⟩
 exact ⟨v2,v3,rfl,⟨⟨Kd.R_mono h2 (fun _ _=>trivial),Kd.R_mono h3 (fun _ _=>trivial)⟩,h5,h4⟩⟩
def banR (l:List Rf) (lb:List Int) (n:Int):List Rf×List Int×Int:=if 1≤n∧n≤15 then (withoutL l n,lb ++ [n],0) else (l,lb,1)
theorem ref_ban (r:RT w W VL VB l lb) (hb:Below w.heap.size w W) (room tmo n:Int) (hl:l.length < 1000000) (hlb:lb.length < 1000000) :
  Calls Try.prog 55 #[.agg #[.int .i64 room,.int .i64 tmo,VL,VB],.int .i64 n] W fun e W2=>∃ V2 V3,e=.returned (.tuple #[.agg #[.int .i64 room,.int .i64 tmo,V2,V3],.int .i64 (banR l lb n).2.2])∧RefDid w W W2 V2 V3 (banR l lb n).1 (banR l lb n).2.1:=by
 unfold banR
 by_cases h:1≤n∧n≤15
 ·
  rw [if_pos h]
  refine (r.Ban_yes hb n h hl hlb).mono ?_
  rintro e W2 ⟨v2,v3,rfl,h2,h3,h4⟩
  exact ⟨v2,v3,rfl,⟨h2,h3,h4⟩⟩
 ·
  rw [if_neg h]
  refine (r.Ban_no hb n h).mono ?_
  rintro e W2 ⟨v2,v3,rfl,h2,h3,h4⟩
  exact ⟨v2,v3,rfl,⟨h2,h3,h4⟩⟩
theorem ref_meet (r:RT w W VL VB l lb) (hb:Below w.heap.size w W) (room tmo n x y now:Int) (hl:l.length < 1000000) (hlb:lb.length < 1000000) :
  Calls Try.prog 53 #[.agg #[.int .i64 room,.int .i64 tmo,VL,VB],.int .i64 n,.agg #[.int .i64 x,.int .i64 y],.int .i64 now] W fun e W2=>∃ V2 V3,e=.returned (.tuple #[.agg #[.int .i64 room,.int .i64 tmo,V2,V3],.int .i64 (meetR room l lb n x y now).2])∧RefDid w W W2 V2 V3 (meetR room l lb n x y now).1 lb:=by
 have fin:∀ {l':List Rf} {c:Int},meetR room l lb n x y now=(l',c)→(Calls Try.prog 53 #[.agg #[.int .i64 room,.int .i64 tmo,VL,VB],.int .i64 n,.agg #[.int .i64 x,.int .i64 y],.int .i64 now] W fun e W2=>∃ V2 V3,e=.returned (.tuple #[.agg #[.int .i64 room,.int .i64 tmo,V2,V3],.int .i64 c])∧RT w W2 V2 V3 l' lb∧Kept W W2 (RefS W)∧Below w.heap.size w W2) →
   Calls Try.prog 53 #[.agg #[.int .i64 room,.int .i64 tmo,VL,VB],.int .i64 n,.agg #[.int .i64 x,.int .i64 y],.int .i64 now] W fun e W2=>∃ V2 V3,e=.returned (.tuple #[.agg #[.int .i64 room,.int .i64 tmo,V2,V3],.int .i64 (meetR room l lb n x y now).2])∧RefDid w W W2 V2 V3 (meetR room l lb n x y now).1 lb:=by
  intro l' c he h
  rw [he]
  refine h.mono ?_
  rintro e W2 ⟨v2,v3,rfl,h2,h3,h4⟩
  exact ⟨v2,v3,rfl,⟨h2,h3,h4⟩⟩
 by_cases h1:1≤n∧n≤15
 ·
  by_cases h2:(-1048576≤x∧x≤1048576)∧(-1048576≤y∧y≤1048576)
  ·
   by_cases h3:0≤now∧now≤1099511627776
   ·
    by_cases h4:n∈lb
    ·
     exact fin (by unfold meetR;rw [if_pos ⟨h1,h2,h3⟩,if_pos h4]) (r.Meet_ban hb h1 h2 h3 hl hlb h4)
    ·
     by_cases h5:0≤findI l n 0
     ·
      exact fin (by unfold meetR;rw [if_pos ⟨h1,h2,h3⟩,if_neg h4,if_pos h5]) (r.Meet_there hb h1 h2 h3 hl hlb h4 h5)
     ·
      by_cases h6:room≤(l.length:Int)
      ·
       exact fin (by unfold meetR;rw [if_pos ⟨h1,h2,h3⟩,if_neg h4,if_neg h5,if_pos h6]) (r.Meet_full hb h1 h2 h3 hl hlb h4 (by omega) h6)
      ·
       exact fin (by unfold meetR;rw [if_pos ⟨h1,h2,h3⟩,if_neg h4,if_neg h5,if_neg h6]) (r.Meet_ok hb h1 h2 h3 hl hlb h4 (by omega) (by omega))
   ·
    exact fin (by unfold meetR;rw [if_neg (fun h=>h3 h.2.2)]) (r.Meet_now hb h1 h2 h3)
  ·
   exact fin (by unfold meetR;rw [if_neg (fun h=>h2 h.2.1)]) (r.Meet_place hb h1 h2)
 ·
  exact fin (by unfold meetR;rw [if_neg (fun h=>h1 h.1)]) (r.Meet_peer hb h1)
theorem RefDid.blk {w W W2:World} {V2 V3:Value} {l:List Rf} {lb:List Int} (d:RefDid w W W2 V2 V3 l lb) {b t:Nat} {cells:Array Value} (h:W.heap[b]?=some (.cells cells t (0,0))) (h1:t≠56) (h2:t≠3):W2.heap[b]?=some (.cells cells t (0,0)):=blk_kept h d.kept (refS_not h h1 h2)
/-- Blocks of the types that acts write. -/
def TyS (W:World) (k:Nat):Prop:=FootT W k∨RefS W k
theorem TyS.foot (h:Kept W W2 (TyS W)) (k:Kept W2 W3 (FootT W2)):Kept W W3 (TyS W):=by
 refine ⟨Nat.le_trans h.1 k.1,fun i hi hn=>?_⟩
 have e:=h.2 i hi hn
 refine (k.2 i (Nat.lt_of_lt_of_le hi h.1) (fun hf=>hn (.inl ?_))).trans e
 obtain ⟨c,t,hc,ht⟩:=hf
 exact ⟨c,t,e.symm.trans hc,ht⟩
theorem TyS.ref (h:Kept W W2 (TyS W)) (k:Kept W2 W3 (RefS W2)):Kept W W3 (TyS W):=by
 refine ⟨Nat.le_trans h.1 k.1,fun i hi hn=>?_⟩
 have e:=h.2 i hi hn
 refine (k.2 i (Nat.lt_of_lt_of_le hi h.1) (fun hf=>hn (.inr ?_))).trans e
 rcases hf with ⟨c,hc⟩|⟨c,hc⟩
 ·
  exact .inl ⟨c,e.symm.trans hc⟩
 ·
  exact .inr ⟨c,e.symm.trans hc⟩
theorem TyS.tys (h:Kept W W2 (TyS W)) (k:Kept W2 W3 (TyS W2)):Kept W W3 (TyS W):=by
 refine ⟨Nat.le_trans h.1 k.1,fun i hi hn=>?_⟩
 have e:=h.2 i hi hn
 refine (k.2 i (Nat.lt_of_lt_of_le hi h.1) (fun hf=>hn ?_)).trans e
 rcases hf with ⟨c,t,hc,ht⟩|⟨c,hc⟩|⟨c,hc⟩
 ·
  exact .inl ⟨c,t,e.symm.trans hc,ht⟩
 ·
  exact .inr (.inl ⟨c,e.symm.trans hc⟩)
 ·
  exact .inr (.inr ⟨c,e.symm.trans hc⟩)
theorem tyS_not {b t:Nat} {cells:Array Value} (h:W.heap[b]?=some (.cells cells t (0,0))) (h1:t≠33) (h2:t≠85) (h3:t≠56) (h4:t≠3):¬ TyS W b:=fun hk=>hk.elim (foot_not h h1 h2) (refS_not h h3 h4)
/-- The blocks of the variables of set and do. -/
structure DLoc (W W2:World) (room tmo:Int) (VL VB:Value) (kind node num x y:Int) (s:ByteArray) (on:Bool):Prop where
 b4:W2.heap[W.heap.size]?=some (.cells #[.int .i64 room,.int .i64 tmo,VL,VB] 45 (0,0))
 b5:W2.heap[W.heap.size+1]?=some (.cells #[.int .i64 kind,.int .i64 node,.int .i64 num,.int .i64 x,.int .i64 y,.string s,.bool on] 42 (0,0))
 b6:W2.heap[W.heap.size+2]?=some (.cells #[.int .i64 0,.int .i64 0,.slice none 0 0,.slice none 0 0] 45 (0,0))
 kp:Kept W W2 (TyS W)
theorem DLoc.below (h:DLoc W W2 room tmo VL VB kind node num x y s on) (hb:Below W2.heap.size W2 W3):DLoc W W3 room tmo VL VB kind node num x y s on:=⟨blk_below h.b4 hb,blk_below h.b5 hb,blk_below h.b6 hb,h.kp.below hb⟩
theorem DLoc.ref (h:DLoc W W2 room tmo VL VB kind node num x y s on) (hk:Kept W2 W3 (RefS W2)):DLoc W W3 room tmo VL VB kind node num x y s on:=⟨blk_kept h.b4 hk (refS_not h.b4 (by decide) (by decide)),blk_kept h.b5 hk (refS_not h.b5 (by decide) (by decide)),blk_kept h.b6 hk (refS_not h.b6 (by decide) (by decide)),TyS.ref h.kp hk⟩
theorem DLoc.foot (h:DLoc W W2 room tmo VL VB kind node num x y s on) (hk:Kept W2 W3 (FootT W2)):DLoc W W3 room tmo VL VB kind node num x y s on:=⟨blk_kept h.b4 hk (foot_not h.b4 (by decide) (by decide)),blk_kept h.b5 hk (foot_not h.b5 (by decide) (by decide)),blk_kept h.b6 hk (foot_not h.b6 (by decide) (by decide)),TyS.foot h.kp hk⟩
theorem DLoc.keepB (h:DLoc W W2 room tmo VL VB kind node num x y s on) {b:Nat} (hk:KeepBut W2 W3 b none) (hb:W.heap.size≤b) (h4:W.heap.size≠b) (h5:W.heap.size+1≠b) (h6:W.heap.size+2≠b):DLoc W W3 room tmo VL VB kind node num x y s on:=⟨hk.blk h.b4 h4 (by simp),hk.blk h.b5 h5 (by simp),hk.blk h.b6 h6 (by simp),h.kp.of_keep hk (.inr hb)⟩
theorem DLoc.start (W:World) (room tmo:Int) (VL VB:Value) (kind node num x y:Int) (s:ByteArray) (on:Bool):DLoc W (((W.alloc (.cells #[.int .i64 room,.int .i64 tmo,VL,VB] 45)).alloc (.cells #[.int .i64 kind,.int .i64 node,.int .i64 num,.int .i64 x,.int .i64 y,.string s,.bool on] 42)).alloc (.cells #[.int .i64 0,.int .i64 0,.slice none 0 0,.slice none 0 0] 45)) room tmo VL VB kind node num x y s on:=by
 refine ⟨blk_alloc (blk_alloc (heap_alloc_new W _) _) _,?_,?_,Kept.of_below (below_alloc (below_alloc (below_alloc (Below.refl _ _) _) _) _) _⟩
 ·
  have:=blk_alloc (heap_alloc_new (W.alloc (.cells #[.int .i64 room,.int .i64 tmo,VL,VB] 45)) (.cells #[.int .i64 kind,.int .i64 node,.int .i64 num,.int .i64 x,.int .i64 y,.string s,.bool on] 42)) (.cells #[.int .i64 0,.int .i64 0,.slice none 0 0,.slice none 0 0] 45)
  rwa [show (W.alloc (.cells #[.int .i64 room,.int .i64 tmo,VL,VB] 45)).heap.size=W.heap.size+1 by simp] at this
 ·
  have:=heap_alloc_new ((W.alloc (.cells #[.int .i64 room,.int .i64 tmo,VL,VB] 45)).alloc (.cells #[.int .i64 kind,.int .i64 node,.int .i64 num,.int .i64 x,.int .i64 y,.string s,.bool on] 42)) (.cells #[.int .i64 0,.int .i64 0,.slice none 0 0,.slice none 0 0] 45)
  rwa [show ((W.alloc (.cells #[.int .i64 room,.int .i64 tmo,VL,VB] 45)).alloc (.cells #[.int .i64 kind,.int .i64 node,.int .i64 num,.int .i64 x,.int .i64 y,.string s,.bool on] 42)).heap.size=W.heap.size+2 by simp] at this
theorem below3 (W:World) (a b c:Obj):Below W.heap.size W (((W.alloc a).alloc b).alloc c):=below_alloc (below_alloc (below_alloc (Below.refl _ _) _) _) _
theorem set4 {b t:Nat} {u0 u1 u2 u3:Value} (h:W.heap[b]?=some (.cells #[u0,u1,u2,u3] t (0,0))) (v0 v1 v2 v3:Value) :
  ((((W.setCell ⟨b,0,none⟩ v0).setCell ⟨b,1,none⟩ v1).setCell ⟨b,2,none⟩ v2).setCell ⟨b,3,none⟩ v3).heap[b]?=some (.cells #[v0,v1,v2,v3] t (0,0))∧KeepBut W ((((W.setCell ⟨b,0,none⟩ v0).setCell ⟨b,1,none⟩ v1).setCell ⟨b,2,none⟩ v2).setCell ⟨b,3,none⟩ v3) b none:=by
 refine ⟨?_,KeepBut.set_ (KeepBut.set_ (KeepBut.set_ (KeepBut.set_ (KeepBut.refl _ _ _) 0 _) 1 _) 2 _) 3 _⟩
 have h0:=blk_put (cs':=#[v0,u1,u2,u3]) h 0 v0 rfl
 have h1:=blk_put (cs':=#[v0,v1,u2,u3]) h0 1 v1 rfl
 have h2:=blk_put (cs':=#[v0,v1,v2,u3]) h1 2 v2 rfl
 exact blk_put h2 3 v3 rfl
theorem PT.keepB {b t:Nat} {cells:Array Value} (p:PT w W g room tmo m bs) (hb:W.heap[b]?=some (.cells cells t (0,0))) (h1:t≠33) (h2:t≠85) (hk:KeepBut W W2 b none) (hbel:Below w.heap.size w W2):PT w W2 g room tmo m bs:=by
 obtain ⟨⟨ps,h,he⟩,hi⟩:=p
 exact ⟨⟨ps,⟨hk.blk h.blk (fun e=>blk_ne hb h.blk h2 e.symm) (by simp),h.lp,h.lb,fun i b' q hq=>⟨hk.blk (h.node i b' q hq).1 (fun e=>blk_ne hb (h.node i b' q hq).1 h1 e.symm) (by simp),(h.node i b' q hq).2⟩,h.inj,h.ge,hbel⟩,he⟩,hi⟩
set_option maxHeartbeats 1600000 in
set_option maxRecDepth 100000 in
theorem set1_calls {room0 tmo0:Int} (t:PT w W g room0 tmo0 m bs) (r:RT w W VL VB l lb) (hl:l.length < 1000000) {cT cR:Int} {mT:PM} {l':List Rf} (hC:(if tickB num=true then withC m node else 1)=cT) (hcR:(setR l node (!decide (0≤num∧num≤1099511627776)) (fun q=>if q.f6 < num then { q with f6:=num } else q)).2=cR) (hM:(if tickB num=true then setM m node (fun p=>{ p with f6:=mx p.f6 num }) else m)=mT) (hl':(setR l node (!decide (0≤num∧num≤1099511627776)) (fun q=>if q.f6 < num then { q with f6:=num } else q)).1=l') :
  Calls Try.prog 58 #[.pointer (some ⟨g,0,none⟩),.agg #[.int .i64 room,.int .i64 tmo,VL,VB],.agg #[.int .i64 1,.int .i64 node,.int .i64 num,.int .i64 x,.int .i64 y,.string s,.bool on]] W fun e W2=>∃ V2 V3,e=.returned (.tuple #[.agg #[.int .i64 room,.int .i64 tmo,V2,V3],.bool (decide (cT=cR))])∧PT w W2 g room0 tmo0 mT bs∧RT w W2 V2 V3 l' lb∧Kept W W2 (TyS W):=by
 obtain ⟨A1,c1,rfl⟩:=r.sl
 obtain ⟨A2,c2,rfl⟩:=r.sb
 obtain ⟨kk,hkk⟩:=(Go.Proofs.Ytpejjpecdkbleaa.Pure.set0_f room tmo l lb node num ⟨#[]⟩ hl).rounds
 have HKK:=Aside0.mk hkk
 have HT:=Aside0.mk (t.below (below3 W (.cells #[.int .i64 room,.int .i64 tmo,.slice A1 l.length c1,.slice A2 lb.length c2] 45) (.cells #[.int .i64 1,.int .i64 node,.int .i64 num,.int .i64 x,.int .i64 y,.string s,.bool on] 42) (.cells #[.int .i64 0,.int .i64 0,.slice none 0 0,.slice none 0 0] 45)))
 have HR:=Aside0.mk (r.below (below3 W (.cells #[.int .i64 room,.int .i64 tmo,.slice A1 l.length c1,.slice A2 lb.length c2] 45) (.cells #[.int .i64 1,.int .i64 node,.int .i64 num,.int .i64 x,.int .i64 y,.string s,.bool on] 42) (.cells #[.int .i64 0,.int .i64 0,.slice none 0 0,.slice none 0 0] 45)))
 have HD:=Aside0.mk (DLoc.start W room tmo (.slice A1 l.length c1) (.slice A2 lb.length c2) 1 node num x y s on)
 have HLR:=Aside0.mk hl'
 have HCR:=Aside0.mk hcR
 have HC:=Aside0.mk hC
 have HM:=Aside0.mk hM
 clear hl' hcR hC hM
 have HWS:=Aside0.mk (show w.heap.size≤W.heap.size from t.bel.size)
 clear hkk t r hl
 go_enter Try.func58,Try.ntmps58
 go_wp2_with fail
 refine (ref_set HR.out HT.out.bel room tmo node HKK.out).mono ?_
 rintro e w3 ⟨V2,V3,he,rd⟩
 rw [HLR.out] at rd
 rw [HCR.out] at he
 subst he
 obtain ⟨A3,c3,rfl⟩:=rd.rt.sl
 obtain ⟨A4,c4,rfl⟩:=rd.rt.sb
 have HT3:=Aside0.mk (HT.out.refd rd.kept rd.bel)
 have HR3:=Aside0.mk rd.rt
 have HD3:=Aside0.mk (HD.out.ref rd.kept)
 clear rd HT HR HD HKK
 go_wp2_with (refine store_own rfl 45 (.tmp 8) (.tmp 31) rfl w3.heap.size #[.int .i64 room,.int .i64 tmo,.slice A3 l'.length c3,.slice A4 lb.length c4] rfl rfl 45 _ (heap_alloc_new w3 _) info45z rfl (t45_one _ _ _ _ _ _ _ _) ?_;intro w4 hW4 hb hk;have hb4:=(Below.trans (below_alloc (Below.refl _ _) _) hb);have HT4:=Aside0.mk (HT3.out.below hb4);have HR4:=Aside0.mk (HR3.out.below hb4);have HD4:=Aside0.mk (HD3.out.below hb4);have HQ4:=Aside0.mk hW4;have hg8:=blk_lt HD3.out.b6;generalize w3.heap.size=g8 at *;have hn8:¬ g8=W.heap.size+1+1:=(by omega);have hn9:¬ W.heap.size+1+1=g8:=(by omega);clear hg8 hW4 hb hk hb4 HT3 HR3 HD3)
 have q0:=(show w4.cell? ⟨g8,0,none⟩=some (.int .i64 room) from blk_cell HQ4.out 0)
 have q1:=(show w4.cell? ⟨g8,1,none⟩=some (.int .i64 tmo) from blk_cell HQ4.out 1)
 have q2:=(show w4.cell? ⟨g8,2,none⟩=some (.slice A3 l'.length c3) from blk_cell HQ4.out 2)
 have q3:=(show w4.cell? ⟨g8,3,none⟩=some (.slice A4 lb.length c4) from blk_cell HQ4.out 3)
 have a1:=(show w4.cell? ⟨W.heap.size+1,1,none⟩=some (.int .i64 node) from blk_cell HD4.out.b5 1)
 have a2:=(show w4.cell? ⟨W.heap.size+1,2,none⟩=some (.int .i64 num) from blk_cell HD4.out.b5 2)
 go_region_held3 (fun w'=>w'.cell? ⟨g8,0,none⟩=some (.int .i64 room)∧w'.cell? ⟨g8,1,none⟩=some (.int .i64 tmo)∧w'.cell? ⟨g8,2,none⟩=some (.slice A3 l'.length c3)∧w'.cell? ⟨g8,3,none⟩=some (.slice A4 lb.length c4)∧w'.cell? ⟨W.heap.size+1,1,none⟩=some (.int .i64 node)∧w'.cell? ⟨W.heap.size+1,2,none⟩=some (.int .i64 num)) (go_keep)
  (first|(go_at_call 19;refine ((HT4.out.below (by repeat (first|(with_reducible first|exact Below.refl _ _|apply below_alloc|apply pw_below_drewN|apply below_drew1)|exact Below.refl _ _))).Hear_any node num).mono ?_;rintro e w5 ⟨he,d⟩;rw [HC.out] at he;rw [HM.out] at d;subst he;have hm:=(show Below w4.heap.size w4 _ from (by repeat (first|(with_reducible first|exact Below.refl _ _|apply below_alloc|apply pw_below_drewN|apply below_drew1)|exact Below.refl _ _):Below w4.heap.size w4 w4.drew));have HT5:=Aside0.mk d.pt;have HR5:=Aside0.mk ((HR4.out.below hm).foot d.kept);have HD5:=Aside0.mk ((HD4.out.below hm).foot d.kept);have HQ5:=Aside0.mk (blk_kept (blk_below HQ4.out hm) d.kept (foot_not (blk_below HQ4.out hm) (by decide) (by decide)));clear d hm q0 q1 q2 q3 a1 a2;have q0:=(show w5.cell? ⟨g8,0,none⟩=some (.int .i64 room) from blk_cell HQ5.out 0);have q1:=(show w5.cell? ⟨g8,1,none⟩=some (.int .i64 tmo) from blk_cell HQ5.out 1);have q2:=(show w5.cell? ⟨g8,2,none⟩=some (.slice A3 l'.length c3) from blk_cell HQ5.out 2);have q3:=(show w5.cell? ⟨g8,3,none⟩=some (.slice A4 lb.length c4) from blk_cell HQ5.out 3);have a1:=(show w5.cell? ⟨W.heap.size+1,1,none⟩=some (.int .i64 node) from blk_cell HD5.out.b5 1);have a2:=(show w5.cell? ⟨W.heap.size+1,2,none⟩=some (.int .i64 num) from blk_cell HD5.out.b5 2);have s0:=(show w5.cell? ⟨W.heap.size+1+1,0,none⟩=some (.int .i64 0) from blk_cell HD5.out.b6 0);have z0:=(show w5.frozen? ⟨W.heap.size+1+1,0,none⟩=false from blk_frozen HD5.out.b6 0);have s1:=(show w5.cell? ⟨W.heap.size+1+1,1,none⟩=some (.int .i64 0) from blk_cell HD5.out.b6 1);have z1:=(show w5.frozen? ⟨W.heap.size+1+1,1,none⟩=false from blk_frozen HD5.out.b6 1);have s2:=(show w5.cell? ⟨W.heap.size+1+1,2,none⟩=some (.slice none 0 0) from blk_cell HD5.out.b6 2);have z2:=(show w5.frozen? ⟨W.heap.size+1+1,2,none⟩=false from blk_frozen HD5.out.b6 2);have s3:=(show w5.cell? ⟨W.heap.size+1+1,3,none⟩=some (.slice none 0 0) from blk_cell HD5.out.b6 3);have z3:=(show w5.frozen? ⟨W.heap.size+1+1,3,none⟩=false from blk_frozen HD5.out.b6 3)))
 all_goals
  (try go_wp2_with fail)
  have hs4:=set4 (b:=W.heap.size+1+1) HD5.out.b6 (.int .i64 room) (.int .i64 tmo) (.slice A3 l'.length c3) (.slice A4 lb.length c4)
  refine bodyPost_ret (v:=.tuple #[.agg #[.int .i64 room,.int .i64 tmo,.slice A3 l'.length c3,.slice A4 lb.length c4],.bool (cT == cR)]) (results_list (rs:=[.cell 6 45,.tmp 7]) rfl (by simp) (.cell (W.heap.size+2) 45 _ (0,0) _ rfl hs4.1 Try.underlying45 rfl info45z (.tmp .nil))) rfl ?_
  have hge:w.heap.size≤W.heap.size+2:=Nat.le_trans HWS.out (Nat.le_add_right _ _)
  exact ⟨_,_,rfl,HT5.out.keepB HD5.out.b6 (by decide) (by decide) hs4.2 ((((HT5.out.bel.setCell hge _).setCell hge _).setCell hge _).setCell hge _),HR5.out.keep45 HD5.out.b6 hs4.2,HD5.out.kp.of_keep hs4.2 (.inr (by omega))⟩
set_option maxHeartbeats 1600000 in
set_option maxRecDepth 100000 in
theorem set5_calls {room0 tmo0:Int} (t:PT w W g room0 tmo0 m bs) (r:RT w W VL VB l lb) (hl:l.length < 1000000) {cT cR:Int} {mT:PM} {l':List Rf} (hC:(if (s.size:Int)≤20 then withC m node else 1)=cT) (hcR:(setR l node (decide (20 < (s.size:Int))) (fun q=>{ q with f2:=s })).2=cR) (hM:(if (s.size:Int)≤20 then setM m node (fun p=>{ p with f2:=s }) else m)=mT) (hl':(setR l node (decide (20 < (s.size:Int))) (fun q=>{ q with f2:=s })).1=l') :
  Calls Try.prog 58 #[.pointer (some ⟨g,0,none⟩),.agg #[.int .i64 room,.int .i64 tmo,VL,VB],.agg #[.int .i64 5,.int .i64 node,.int .i64 num,.int .i64 x,.int .i64 y,.string s,.bool on]] W fun e W2=>∃ V2 V3,e=.returned (.tuple #[.agg #[.int .i64 room,.int .i64 tmo,V2,V3],.bool (decide (cT=cR))])∧PT w W2 g room0 tmo0 mT bs∧RT w W2 V2 V3 l' lb∧Kept W W2 (TyS W):=by
 obtain ⟨A1,c1,rfl⟩:=r.sl
 obtain ⟨A2,c2,rfl⟩:=r.sb
 obtain ⟨kk,hkk⟩:=(Go.Proofs.Ytpejjpecdkbleaa.Pure.set1_f room tmo l lb node 0 s hl).rounds
 have HKK:=Aside0.mk hkk
 have HT:=Aside0.mk (t.below (below3 W (.cells #[.int .i64 room,.int .i64 tmo,.slice A1 l.length c1,.slice A2 lb.length c2] 45) (.cells #[.int .i64 5,.int .i64 node,.int .i64 num,.int .i64 x,.int .i64 y,.string s,.bool on] 42) (.cells #[.int .i64 0,.int .i64 0,.slice none 0 0,.slice none 0 0] 45)))
 have HR:=Aside0.mk (r.below (below3 W (.cells #[.int .i64 room,.int .i64 tmo,.slice A1 l.length c1,.slice A2 lb.length c2] 45) (.cells #[.int .i64 5,.int .i64 node,.int .i64 num,.int .i64 x,.int .i64 y,.string s,.bool on] 42) (.cells #[.int .i64 0,.int .i64 0,.slice none 0 0,.slice none 0 0] 45)))
 have HD:=Aside0.mk (DLoc.start W room tmo (.slice A1 l.length c1) (.slice A2 lb.length c2) 5 node num x y s on)
 have HLR:=Aside0.mk hl'
 have HCR:=Aside0.mk hcR
 have HC:=Aside0.mk hC
 have HM:=Aside0.mk hM
 clear hl' hcR hC hM
 have HWS:=Aside0.mk (show w.heap.size≤W.heap.size from t.bel.size)
 clear hkk t r hl
 go_enter Try.func58,Try.ntmps58
 go_wp2_with fail
 refine (ref_set HR.out HT.out.bel room tmo node HKK.out).mono ?_
 rintro e w3 ⟨V2,V3,he,rd⟩
 rw [HLR.out] at rd
 rw [HCR.out] at he
 subst he
 obtain ⟨A3,c3,rfl⟩:=rd.rt.sl
 obtain ⟨A4,c4,rfl⟩:=rd.rt.sb
 have HT3:=Aside0.mk (HT.out.refd rd.kept rd.bel)
 have HR3:=Aside0.mk rd.rt
 have HD3:=Aside0.mk (HD.out.ref rd.kept)
 clear rd HT HR HD HKK
 go_wp2_with (refine store_own rfl 45 (.tmp 10) (.tmp 51) rfl w3.heap.size #[.int .i64 room,.int .i64 tmo,.slice A3 l'.length c3,.slice A4 lb.length c4] rfl rfl 45 _ (heap_alloc_new w3 _) info45z rfl (t45_one _ _ _ _ _ _ _ _) ?_;intro w4 hW4 hb hk;have hb4:=(Below.trans (below_alloc (Below.refl _ _) _) hb);have HT4:=Aside0.mk (HT3.out.below hb4);have HR4:=Aside0.mk (HR3.out.below hb4);have HD4:=Aside0.mk (HD3.out.below hb4);have HQ4:=Aside0.mk hW4;have hg8:=blk_lt HD3.out.b6;generalize w3.heap.size=g8 at *;have hn8:¬ g8=W.heap.size+1+1:=(by omega);have hn9:¬ W.heap.size+1+1=g8:=(by omega);clear hg8 hW4 hb hk hb4 HT3 HR3 HD3)
 have q0:=(show w4.cell? ⟨g8,0,none⟩=some (.int .i64 room) from blk_cell HQ4.out 0)
 have q1:=(show w4.cell? ⟨g8,1,none⟩=some (.int .i64 tmo) from blk_cell HQ4.out 1)
 have q2:=(show w4.cell? ⟨g8,2,none⟩=some (.slice A3 l'.length c3) from blk_cell HQ4.out 2)
 have q3:=(show w4.cell? ⟨g8,3,none⟩=some (.slice A4 lb.length c4) from blk_cell HQ4.out 3)
 have a1:=(show w4.cell? ⟨W.heap.size+1,1,none⟩=some (.int .i64 node) from blk_cell HD4.out.b5 1)
 have a5:=(show w4.cell? ⟨W.heap.size+1,5,none⟩=some (.string s) from blk_cell HD4.out.b5 5)
 go_region_held3 (fun w'=>w'.cell? ⟨g8,0,none⟩=some (.int .i64 room)∧w'.cell? ⟨g8,1,none⟩=some (.int .i64 tmo)∧w'.cell? ⟨g8,2,none⟩=some (.slice A3 l'.length c3)∧w'.cell? ⟨g8,3,none⟩=some (.slice A4 lb.length c4)∧w'.cell? ⟨W.heap.size+1,1,none⟩=some (.int .i64 node)∧w'.cell? ⟨W.heap.size+1,5,none⟩=some (.string s)) (go_keep)
  (first|(go_at_call 29;refine ((HT4.out.below (by repeat (first|(with_reducible first|exact Below.refl _ _|apply below_alloc|apply pw_below_drewN|apply below_drew1)|exact Below.refl _ _))).SetHave_any node s).mono ?_;rintro e w5 ⟨he,d⟩;rw [HC.out] at he;rw [HM.out] at d;subst he;have hm:=(show Below w4.heap.size w4 _ from (by repeat (first|(with_reducible first|exact Below.refl _ _|apply below_alloc|apply pw_below_drewN|apply below_drew1)|exact Below.refl _ _):Below w4.heap.size w4 w4.drew));have HT5:=Aside0.mk d.pt;have HR5:=Aside0.mk ((HR4.out.below hm).foot d.kept);have HD5:=Aside0.mk ((HD4.out.below hm).foot d.kept);have HQ5:=Aside0.mk (blk_kept (blk_below HQ4.out hm) d.kept (foot_not (blk_below HQ4.out hm) (by decide) (by decide)));clear d hm q0 q1 q2 q3 a1 a5;have q0:=(show w5.cell? ⟨g8,0,none⟩=some (.int .i64 room) from blk_cell HQ5.out 0);have q1:=(show w5.cell? ⟨g8,1,none⟩=some (.int .i64 tmo) from blk_cell HQ5.out 1);have q2:=(show w5.cell? ⟨g8,2,none⟩=some (.slice A3 l'.length c3) from blk_cell HQ5.out 2);have q3:=(show w5.cell? ⟨g8,3,none⟩=some (.slice A4 lb.length c4) from blk_cell HQ5.out 3);have a1:=(show w5.cell? ⟨W.heap.size+1,1,none⟩=some (.int .i64 node) from blk_cell HD5.out.b5 1);have a5:=(show w5.cell? ⟨W.heap.size+1,5,none⟩=some (.string s) from blk_cell HD5.out.b5 5);have s0:=(show w5.cell? ⟨W.heap.size+1+1,0,none⟩=some (.int .i64 0) from blk_cell HD5.out.b6 0);have z0:=(show w5.frozen? ⟨W.heap.size+1+1,0,none⟩=false from blk_frozen HD5.out.b6 0);have s1:=(show w5.cell? ⟨W.heap.size+1+1,1,none⟩=some (.int .i64 0) from blk_cell HD5.out.b6 1);have z1:=(show w5.frozen? ⟨W.heap.size+1+1,1,none⟩=false from blk_frozen HD5.out.b6 1);have s2:=(show w5.cell? ⟨W.heap.size+1+1,2,none⟩=some (.slice none 0 0) from blk_cell HD5.out.b6 2);have z2:=(show w5.frozen? ⟨W.heap.size+1+1,2,none⟩=false from blk_frozen HD5.out.b6 2);have s3:=(show w5.cell? ⟨W.heap.size+1+1,3,none⟩=some (.slice none 0 0) from blk_cell HD5.out.b6 3);have z3:=(show w5.frozen? ⟨W.heap.size+1+1,3,none⟩=false from blk_frozen HD5.out.b6 3)))
 all_goals
  (try go_wp2_with fail)
  have hs4:=set4 (b:=W.heap.size+1+1) HD5.out.b6 (.int .i64 room) (.int .i64 tmo) (.slice A3 l'.length c3) (.slice A4 lb.length c4)
  refine bodyPost_ret (v:=.tuple #[.agg #[.int .i64 room,.int .i64 tmo,.slice A3 l'.length c3,.slice A4 lb.length c4],.bool (cT == cR)]) (results_list (rs:=[.cell 6 45,.tmp 7]) rfl (by simp) (.cell (W.heap.size+2) 45 _ (0,0) _ rfl hs4.1 Try.underlying45 rfl info45z (.tmp .nil))) rfl ?_
  have hge:w.heap.size≤W.heap.size+2:=Nat.le_trans HWS.out (Nat.le_add_right _ _)
  exact ⟨_,_,rfl,HT5.out.keepB HD5.out.b6 (by decide) (by decide) hs4.2 ((((HT5.out.bel.setCell hge _).setCell hge _).setCell hge _).setCell hge _),HR5.out.keep45 HD5.out.b6 hs4.2,HD5.out.kp.of_keep hs4.2 (.inr (by omega))⟩
set_option maxHeartbeats 1600000 in
set_option maxRecDepth 100000 in
theorem set6_calls {room0 tmo0:Int} (t:PT w W g room0 tmo0 m bs) (r:RT w W VL VB l lb) (hl:l.length < 1000000) (v:Int) (hv:v=(if on=true then 1 else 0)) {cT cR:Int} {mT:PM} {l':List Rf} (hC:(withC m node)=cT) (hcR:(setR l node false (fun q=>{ q with f3:=v == (1:Int) })).2=cR) (hM:(setM m node (fun p=>{ p with f3:=on }))=mT) (hl':(setR l node false (fun q=>{ q with f3:=v == (1:Int) })).1=l') :
  Calls Try.prog 58 #[.pointer (some ⟨g,0,none⟩),.agg #[.int .i64 room,.int .i64 tmo,VL,VB],.agg #[.int .i64 6,.int .i64 node,.int .i64 num,.int .i64 x,.int .i64 y,.string s,.bool on]] W fun e W2=>∃ V2 V3,e=.returned (.tuple #[.agg #[.int .i64 room,.int .i64 tmo,V2,V3],.bool (decide (cT=cR))])∧PT w W2 g room0 tmo0 mT bs∧RT w W2 V2 V3 l' lb∧Kept W W2 (TyS W):=by
 obtain ⟨A1,c1,rfl⟩:=r.sl
 obtain ⟨A2,c2,rfl⟩:=r.sb
 obtain ⟨kk,hkk⟩:=(Go.Proofs.Ytpejjpecdkbleaa.Pure.set2_f room tmo l lb node v ⟨#[]⟩ hl).rounds
 have HKK:=Aside0.mk hkk
 have HT:=Aside0.mk (t.below (below3 W (.cells #[.int .i64 room,.int .i64 tmo,.slice A1 l.length c1,.slice A2 lb.length c2] 45) (.cells #[.int .i64 6,.int .i64 node,.int .i64 num,.int .i64 x,.int .i64 y,.string s,.bool on] 42) (.cells #[.int .i64 0,.int .i64 0,.slice none 0 0,.slice none 0 0] 45)))
 have HR:=Aside0.mk (r.below (below3 W (.cells #[.int .i64 room,.int .i64 tmo,.slice A1 l.length c1,.slice A2 lb.length c2] 45) (.cells #[.int .i64 6,.int .i64 node,.int .i64 num,.int .i64 x,.int .i64 y,.string s,.bool on] 42) (.cells #[.int .i64 0,.int .i64 0,.slice none 0 0,.slice none 0 0] 45)))
 have HD:=Aside0.mk (DLoc.start W room tmo (.slice A1 l.length c1) (.slice A2 lb.length c2) 6 node num x y s on)
 have HLR:=Aside0.mk hl'
 have HCR:=Aside0.mk hcR
 have HC:=Aside0.mk hC
 have HM:=Aside0.mk hM
 clear hl' hcR hC hM
 have HWS:=Aside0.mk (show w.heap.size≤W.heap.size from t.bel.size)
 clear hkk t r hl
 have HV:=Aside0.mk (show ∀ W,Calls Try.prog 76 #[.bool on] W fun e W2=>e=.returned (.int .i64 v)∧W2=W from fun W=>by rw [hv];exact num_calls on W)
 clear hv
 go_enter Try.func58,Try.ntmps58
 go_wp2_with fail
 obtain ⟨w1,hw1⟩:∃ w1,w1=(((W.alloc (.cells #[.int .i64 room,.int .i64 tmo,.slice A1 l.length c1,.slice A2 lb.length c2] 45)).alloc (.cells #[.int .i64 6,.int .i64 node,.int .i64 num,.int .i64 x,.int .i64 y,.string s,.bool on] 42)).alloc (.cells #[.int .i64 0,.int .i64 0,.slice none 0 0,.slice none 0 0] 45)):=⟨_,rfl⟩
 rw [← hw1] at HT HR HD ⊢
 clear hw1
 go_cut [12,13] from 64 to 73 (fun v12 v13 wc=>∃ (g8:Nat) (A3:Option Addr) (c3:Nat) (A4:Option Addr) (c4:Nat),v12=.pointer (some ⟨g8,0,none⟩)∧v13=.int .i64 cR∧¬ g8=W.heap.size+1+1∧¬ W.heap.size+1+1=g8∧Aside0 (PT w wc g room0 tmo0 m bs)∧Aside0 (RT w wc (.slice A3 l'.length c3) (.slice A4 lb.length c4) l' lb)∧Aside0 (DLoc W wc room tmo (.slice A1 l.length c1) (.slice A2 lb.length c2) 6 node num x y s on)∧Aside0 (wc.heap[g8]?=some (.cells #[.int .i64 room,.int .i64 tmo,.slice A3 l'.length c3,.slice A4 lb.length c4] 45 (0,0))))
 case first =>
  have k0:w1.cell? ⟨W.heap.size,0,none⟩=some (.int .i64 room):=blk_cell HD.out.b4 0
  have k1:w1.cell? ⟨W.heap.size,1,none⟩=some (.int .i64 tmo):=blk_cell HD.out.b4 1
  have k2:w1.cell? ⟨W.heap.size,2,none⟩=some (.slice A1 l.length c1):=blk_cell HD.out.b4 2
  have k3:w1.cell? ⟨W.heap.size,3,none⟩=some (.slice A2 lb.length c2):=blk_cell HD.out.b4 3
  have a1:w1.cell? ⟨W.heap.size+1,1,none⟩=some (.int .i64 node):=blk_cell HD.out.b5 1
  have a6:w1.cell? ⟨W.heap.size+1,6,none⟩=some (.bool on):=blk_cell HD.out.b5 6
  have hg6:W.heap.size+2 < w1.heap.size:=blk_lt HD.out.b6
  have m0_:¬ W.heap.size=w1.heap.size:=by omega
  have n0_:¬ w1.heap.size=W.heap.size:=by omega
  have m1_:¬ W.heap.size+1=w1.heap.size:=by omega
  have n1_:¬ w1.heap.size=W.heap.size+1:=by omega
  go_region_held3 (fun w'=>w'.cell? ⟨W.heap.size,0,none⟩=some (.int .i64 room)∧w'.cell? ⟨W.heap.size,1,none⟩=some (.int .i64 tmo)∧w'.cell? ⟨W.heap.size,2,none⟩=some (.slice A1 l.length c1)∧w'.cell? ⟨W.heap.size,3,none⟩=some (.slice A2 lb.length c2)∧w'.cell? ⟨W.heap.size+1,1,none⟩=some (.int .i64 node)∧w'.cell? ⟨W.heap.size+1,6,none⟩=some (.bool on)) (go_keep)
   (first
    | (go_at_call 76;refine (HV.out _).mono ?_;rintro e w' ⟨rfl,rfl⟩)
    | (go_at_call 75;refine (ref_set (HR.out.below (by repeat (first|(with_reducible first|exact Below.refl _ _|apply below_alloc|apply pw_below_drewN|apply below_drew1)|exact Below.refl _ _))) (below_step HT.out.bel (by repeat (first|(with_reducible first|exact Below.refl _ _|apply below_alloc|apply pw_below_drewN|apply below_drew1)|exact Below.refl _ _))) room tmo node HKK.out).mono ?_;rintro e w3 ⟨V2,V3,he,rd⟩;rw [HLR.out] at rd;rw [HCR.out] at he;subst he;have hz:=rd.blk (b:=w1.heap.size) (t:=45) (cells:=#[.int .i64 0,.int .i64 0,.slice none 0 0,.slice none 0 0]) (by first|exact heap_alloc_new _ _|exact blk_drew (heap_alloc_new _ _)|exact blk_drewN (heap_alloc_new _ _) _) (by decide) (by decide);obtain ⟨A3,c3,hA3⟩:=rd.rt.sl;subst hA3;obtain ⟨A4,c4,hA4⟩:=rd.rt.sb;subst hA4;have HT3:=Aside0.mk ((HT.out.below (by repeat (first|(with_reducible first|exact Below.refl _ _|apply below_alloc|apply pw_below_drewN|apply below_drew1)|exact Below.refl _ _))).refd rd.kept rd.bel);have HR3:=Aside0.mk rd.rt;have HD3:=Aside0.mk ((HD.out.below (by repeat (first|(with_reducible first|exact Below.refl _ _|apply below_alloc|apply pw_below_drewN|apply below_drew1)|exact Below.refl _ _))).ref rd.kept);clear rd k0 k1 k2 k3 a1 a6;have k0:=(show w3.cell? ⟨W.heap.size,0,none⟩=some (.int .i64 room) from blk_cell HD3.out.b4 0);have k1:=(show w3.cell? ⟨W.heap.size,1,none⟩=some (.int .i64 tmo) from blk_cell HD3.out.b4 1);have k2:=(show w3.cell? ⟨W.heap.size,2,none⟩=some (.slice A1 l.length c1) from blk_cell HD3.out.b4 2);have k3:=(show w3.cell? ⟨W.heap.size,3,none⟩=some (.slice A2 lb.length c2) from blk_cell HD3.out.b4 3);have a1:=(show w3.cell? ⟨W.heap.size+1,1,none⟩=some (.int .i64 node) from blk_cell HD3.out.b5 1);have a6:=(show w3.cell? ⟨W.heap.size+1,6,none⟩=some (.bool on) from blk_cell HD3.out.b5 6);have hg7:=(show W.heap.size+2 < w3.heap.size from blk_lt HD3.out.b6);have m2_:=(show ¬ W.heap.size=w3.heap.size by omega);have n2_:=(show ¬ w3.heap.size=W.heap.size by omega);have m3_:=(show ¬ W.heap.size+1=w3.heap.size by omega);have n3_:=(show ¬ w3.heap.size=W.heap.size+1 by omega);have u0:=(show w3.cell? ⟨w1.heap.size,0,none⟩=some (.int .i64 0) from blk_cell hz 0);have uz0:=(show w3.frozen? ⟨w1.heap.size,0,none⟩=false from blk_frozen hz 0);have u1:=(show w3.cell? ⟨w1.heap.size,1,none⟩=some (.int .i64 0) from blk_cell hz 1);have uz1:=(show w3.frozen? ⟨w1.heap.size,1,none⟩=false from blk_frozen hz 1);have u2:=(show w3.cell? ⟨w1.heap.size,2,none⟩=some (.slice none 0 0) from blk_cell hz 2);have uz2:=(show w3.frozen? ⟨w1.heap.size,2,none⟩=false from blk_frozen hz 2);have u3:=(show w3.cell? ⟨w1.heap.size,3,none⟩=some (.slice none 0 0) from blk_cell hz 3);have uz3:=(show w3.frozen? ⟨w1.heap.size,3,none⟩=false from blk_frozen hz 3);have HZ:=Aside0.mk hz;clear hz)
    | (go_at_call 75;refine (ref_set (HR.out.below (by repeat (first|(with_reducible first|exact Below.refl _ _|apply below_alloc|apply pw_below_drewN|apply below_drew1)|exact Below.refl _ _))) (below_step HT.out.bel (by repeat (first|(with_reducible first|exact Below.refl _ _|apply below_alloc|apply pw_below_drewN|apply below_drew1)|exact Below.refl _ _))) room tmo node HKK.out).mono ?_;rintro e w3 ⟨V2,V3,he,rd⟩;rw [HLR.out] at rd;rw [HCR.out] at he;subst he;obtain ⟨A3,c3,hA3⟩:=rd.rt.sl;subst hA3;obtain ⟨A4,c4,hA4⟩:=rd.rt.sb;subst hA4;have HT3:=Aside0.mk ((HT.out.below (by repeat (first|(with_reducible first|exact Below.refl _ _|apply below_alloc|apply pw_below_drewN|apply below_drew1)|exact Below.refl _ _))).refd rd.kept rd.bel);have HR3:=Aside0.mk rd.rt;have HD3:=Aside0.mk ((HD.out.below (by repeat (first|(with_reducible first|exact Below.refl _ _|apply below_alloc|apply pw_below_drewN|apply below_drew1)|exact Below.refl _ _))).ref rd.kept);clear rd k0 k1 k2 k3 a1 a6;have k0:=(show w3.cell? ⟨W.heap.size,0,none⟩=some (.int .i64 room) from blk_cell HD3.out.b4 0);have k1:=(show w3.cell? ⟨W.heap.size,1,none⟩=some (.int .i64 tmo) from blk_cell HD3.out.b4 1);have k2:=(show w3.cell? ⟨W.heap.size,2,none⟩=some (.slice A1 l.length c1) from blk_cell HD3.out.b4 2);have k3:=(show w3.cell? ⟨W.heap.size,3,none⟩=some (.slice A2 lb.length c2) from blk_cell HD3.out.b4 3);have a1:=(show w3.cell? ⟨W.heap.size+1,1,none⟩=some (.int .i64 node) from blk_cell HD3.out.b5 1);have a6:=(show w3.cell? ⟨W.heap.size+1,6,none⟩=some (.bool on) from blk_cell HD3.out.b5 6);have hg7:=(show W.heap.size+2 < w3.heap.size from blk_lt HD3.out.b6);have m2_:=(show ¬ W.heap.size=w3.heap.size by omega);have n2_:=(show ¬ w3.heap.size=W.heap.size by omega);have m3_:=(show ¬ W.heap.size+1=w3.heap.size by omega);have n3_:=(show ¬ w3.heap.size=W.heap.size+1 by omega)))
  all_goals
   (try go_wp2_with fail)
   go_meet
   case rel =>
    have hws:=HWS.out
    first
    | exact ⟨w1.heap.size,A3,c3,A4,c4,rfl,rfl,by omega,by omega,⟨HT3.out.keepB HZ.out (by decide) (by decide) (set4 HZ.out _ _ _ _).2 ((((HT3.out.bel.setCell (by show w.heap.size≤w1.heap.size;omega) _).setCell (by show w.heap.size≤w1.heap.size;omega) _).setCell (by show w.heap.size≤w1.heap.size;omega) _).setCell (by show w.heap.size≤w1.heap.size;omega) _)⟩,⟨HR3.out.keep45 HZ.out (set4 HZ.out _ _ _ _).2⟩,⟨HD3.out.keepB (set4 HZ.out _ _ _ _).2 (by omega) (by omega) (by omega) (by omega)⟩,⟨(set4 HZ.out _ _ _ _).1⟩⟩
    | exact ⟨w3.heap.size,A3,c3,A4,c4,rfl,rfl,by omega,by omega,⟨HT3.out.below (below_alloc (Below.refl _ _) _)⟩,⟨HR3.out.below (below_alloc (Below.refl _ _) _)⟩,⟨HD3.out.below (below_alloc (Below.refl _ _) _)⟩,⟨heap_alloc_new _ _⟩⟩
    | (trace_state;sorry)
 case rest =>
  obtain ⟨g8,A3,c3,A4,c4,rfl,rfl,hn8,hn9,HT4,HR4,HD4,HQ4⟩:=hcut
  clear HT HR HD HKK HV
  (try go_wp2_with fail)
  have q0:=(show wc.cell? ⟨g8,0,none⟩=some (.int .i64 room) from blk_cell HQ4.out 0)
  have q1:=(show wc.cell? ⟨g8,1,none⟩=some (.int .i64 tmo) from blk_cell HQ4.out 1)
  have q2:=(show wc.cell? ⟨g8,2,none⟩=some (.slice A3 l'.length c3) from blk_cell HQ4.out 2)
  have q3:=(show wc.cell? ⟨g8,3,none⟩=some (.slice A4 lb.length c4) from blk_cell HQ4.out 3)
  have a1:=(show wc.cell? ⟨W.heap.size+1,1,none⟩=some (.int .i64 node) from blk_cell HD4.out.b5 1)
  have a6:=(show wc.cell? ⟨W.heap.size+1,6,none⟩=some (.bool on) from blk_cell HD4.out.b5 6)
  go_region_held3 (fun w'=>w'.cell? ⟨g8,0,none⟩=some (.int .i64 room)∧w'.cell? ⟨g8,1,none⟩=some (.int .i64 tmo)∧w'.cell? ⟨g8,2,none⟩=some (.slice A3 l'.length c3)∧w'.cell? ⟨g8,3,none⟩=some (.slice A4 lb.length c4)∧w'.cell? ⟨W.heap.size+1,1,none⟩=some (.int .i64 node)∧w'.cell? ⟨W.heap.size+1,6,none⟩=some (.bool on)) (go_keep)
   (first|(go_at_call 30;refine ((HT4.out.below (by repeat (first|(with_reducible first|exact Below.refl _ _|apply below_alloc|apply pw_below_drewN|apply below_drew1)|exact Below.refl _ _))).SetWants_any node on).mono ?_;rintro e w5 ⟨he,d⟩;rw [HC.out] at he;rw [HM.out] at d;subst he;have hm:=(show Below wc.heap.size wc _ from (by repeat (first|(with_reducible first|exact Below.refl _ _|apply below_alloc|apply pw_below_drewN|apply below_drew1)|exact Below.refl _ _):Below wc.heap.size wc wc.drew));have HT5:=Aside0.mk d.pt;have HR5:=Aside0.mk ((HR4.out.below hm).foot d.kept);have HD5:=Aside0.mk ((HD4.out.below hm).foot d.kept);have HQ5:=Aside0.mk (blk_kept (blk_below HQ4.out hm) d.kept (foot_not (blk_below HQ4.out hm) (by decide) (by decide)));clear d hm q0 q1 q2 q3 a1 a6;have q0:=(show w5.cell? ⟨g8,0,none⟩=some (.int .i64 room) from blk_cell HQ5.out 0);have q1:=(show w5.cell? ⟨g8,1,none⟩=some (.int .i64 tmo) from blk_cell HQ5.out 1);have q2:=(show w5.cell? ⟨g8,2,none⟩=some (.slice A3 l'.length c3) from blk_cell HQ5.out 2);have q3:=(show w5.cell? ⟨g8,3,none⟩=some (.slice A4 lb.length c4) from blk_cell HQ5.out 3);have a1:=(show w5.cell? ⟨W.heap.size+1,1,none⟩=some (.int .i64 node) from blk_cell HD5.out.b5 1);have a6:=(show w5.cell? ⟨W.heap.size+1,6,none⟩=some (.bool on) from blk_cell HD5.out.b5 6);have s0:=(show w5.cell? ⟨W.heap.size+1+1,0,none⟩=some (.int .i64 0) from blk_cell HD5.out.b6 0);have z0:=(show w5.frozen? ⟨W.heap.size+1+1,0,none⟩=false from blk_frozen HD5.out.b6 0);have s1:=(show w5.cell? ⟨W.heap.size+1+1,1,none⟩=some (.int .i64 0) from blk_cell HD5.out.b6 1);have z1:=(show w5.frozen? ⟨W.heap.size+1+1,1,none⟩=false from blk_frozen HD5.out.b6 1);have s2:=(show w5.cell? ⟨W.heap.size+1+1,2,none⟩=some (.slice none 0 0) from blk_cell HD5.out.b6 2);have z2:=(show w5.frozen? ⟨W.heap.size+1+1,2,none⟩=false from blk_frozen HD5.out.b6 2);have s3:=(show w5.cell? ⟨W.heap.size+1+1,3,none⟩=some (.slice none 0 0) from blk_cell HD5.out.b6 3);have z3:=(show w5.frozen? ⟨W.heap.size+1+1,3,none⟩=false from blk_frozen HD5.out.b6 3)))
  all_goals
   (try go_wp2_with fail)
   have hs4:=set4 (b:=W.heap.size+1+1) HD5.out.b6 (.int .i64 room) (.int .i64 tmo) (.slice A3 l'.length c3) (.slice A4 lb.length c4)
   refine bodyPost_ret (v:=.tuple #[.agg #[.int .i64 room,.int .i64 tmo,.slice A3 l'.length c3,.slice A4 lb.length c4],.bool (cT == cR)]) (results_list (rs:=[.cell 6 45,.tmp 7]) rfl (by simp) (.cell (W.heap.size+2) 45 _ (0,0) _ rfl hs4.1 Try.underlying45 rfl info45z (.tmp .nil))) rfl ?_
   have hge:w.heap.size≤W.heap.size+2:=Nat.le_trans HWS.out (Nat.le_add_right _ _)
   exact ⟨_,_,rfl,HT5.out.keepB HD5.out.b6 (by decide) (by decide) hs4.2 ((((HT5.out.bel.setCell hge _).setCell hge _).setCell hge _).setCell hge _),HR5.out.keep45 HD5.out.b6 hs4.2,HD5.out.kp.of_keep hs4.2 (.inr (by omega))⟩
set_option maxHeartbeats 1600000 in
set_option maxRecDepth 100000 in
theorem set7_calls {room0 tmo0:Int} (t:PT w W g room0 tmo0 m bs) (r:RT w W VL VB l lb) (hl:l.length < 1000000) (v:Int) (hv:v=(if on=true then 1 else 0)) {cT cR:Int} {mT:PM} {l':List Rf} (hC:(withC m node)=cT) (hcR:(setR l node false (fun q=>{ q with f4:=v == (1:Int) })).2=cR) (hM:(setM m node (fun p=>{ p with f4:=on }))=mT) (hl':(setR l node false (fun q=>{ q with f4:=v == (1:Int) })).1=l') :
  Calls Try.prog 58 #[.pointer (some ⟨g,0,none⟩),.agg #[.int .i64 room,.int .i64 tmo,VL,VB],.agg #[.int .i64 7,.int .i64 node,.int .i64 num,.int .i64 x,.int .i64 y,.string s,.bool on]] W fun e W2=>∃ V2 V3,e=.returned (.tuple #[.agg #[.int .i64 room,.int .i64 tmo,V2,V3],.bool (decide (cT=cR))])∧PT w W2 g room0 tmo0 mT bs∧RT w W2 V2 V3 l' lb∧Kept W W2 (TyS W):=by
 obtain ⟨A1,c1,rfl⟩:=r.sl
 obtain ⟨A2,c2,rfl⟩:=r.sb
 obtain ⟨kk,hkk⟩:=(Go.Proofs.Ytpejjpecdkbleaa.Pure.set3_f room tmo l lb node v ⟨#[]⟩ hl).rounds
 have HKK:=Aside0.mk hkk
 have HT:=Aside0.mk (t.below (below3 W (.cells #[.int .i64 room,.int .i64 tmo,.slice A1 l.length c1,.slice A2 lb.length c2] 45) (.cells #[.int .i64 7,.int .i64 node,.int .i64 num,.int .i64 x,.int .i64 y,.string s,.bool on] 42) (.cells #[.int .i64 0,.int .i64 0,.slice none 0 0,.slice none 0 0] 45)))
 have HR:=Aside0.mk (r.below (below3 W (.cells #[.int .i64 room,.int .i64 tmo,.slice A1 l.length c1,.slice A2 lb.length c2] 45) (.cells #[.int .i64 7,.int .i64 node,.int .i64 num,.int .i64 x,.int .i64 y,.string s,.bool on] 42) (.cells #[.int .i64 0,.int .i64 0,.slice none 0 0,.slice none 0 0] 45)))
 have HD:=Aside0.mk (DLoc.start W room tmo (.slice A1 l.length c1) (.slice A2 lb.length c2) 7 node num x y s on)
 have HLR:=Aside0.mk hl'
 have HCR:=Aside0.mk hcR
 have HC:=Aside0.mk hC
 have HM:=Aside0.mk hM
 clear hl' hcR hC hM
 have HWS:=Aside0.mk (show w.heap.size≤W.heap.size from t.bel.size)
 clear hkk t r hl
 have HV:=Aside0.mk (show ∀ W,Calls Try.prog 76 #[.bool on] W fun e W2=>e=.returned (.int .i64 v)∧W2=W from fun W=>by rw [hv];exact num_calls on W)
 clear hv
 go_enter Try.func58,Try.ntmps58
 go_wp2_with fail
 obtain ⟨w1,hw1⟩:∃ w1,w1=(((W.alloc (.cells #[.int .i64 room,.int .i64 tmo,.slice A1 l.length c1,.slice A2 lb.length c2] 45)).alloc (.cells #[.int .i64 7,.int .i64 node,.int .i64 num,.int .i64 x,.int .i64 y,.string s,.bool on] 42)).alloc (.cells #[.int .i64 0,.int .i64 0,.slice none 0 0,.slice none 0 0] 45)):=⟨_,rfl⟩
 rw [← hw1] at HT HR HD ⊢
 clear hw1
 go_cut [14,15] from 85 to 94 (fun v12 v13 wc=>∃ (g8:Nat) (A3:Option Addr) (c3:Nat) (A4:Option Addr) (c4:Nat),v12=.pointer (some ⟨g8,0,none⟩)∧v13=.int .i64 cR∧¬ g8=W.heap.size+1+1∧¬ W.heap.size+1+1=g8∧Aside0 (PT w wc g room0 tmo0 m bs)∧Aside0 (RT w wc (.slice A3 l'.length c3) (.slice A4 lb.length c4) l' lb)∧Aside0 (DLoc W wc room tmo (.slice A1 l.length c1) (.slice A2 lb.length c2) 7 node num x y s on)∧Aside0 (wc.heap[g8]?=some (.cells #[.int .i64 room,.int .i64 tmo,.slice A3 l'.length c3,.slice A4 lb.length c4] 45 (0,0))))
 case first =>
  have k0:w1.cell? ⟨W.heap.size,0,none⟩=some (.int .i64 room):=blk_cell HD.out.b4 0
  have k1:w1.cell? ⟨W.heap.size,1,none⟩=some (.int .i64 tmo):=blk_cell HD.out.b4 1
  have k2:w1.cell? ⟨W.heap.size,2,none⟩=some (.slice A1 l.length c1):=blk_cell HD.out.b4 2
  have k3:w1.cell? ⟨W.heap.size,3,none⟩=some (.slice A2 lb.length c2):=blk_cell HD.out.b4 3
  have a1:w1.cell? ⟨W.heap.size+1,1,none⟩=some (.int .i64 node):=blk_cell HD.out.b5 1
  have a6:w1.cell? ⟨W.heap.size+1,6,none⟩=some (.bool on):=blk_cell HD.out.b5 6
  have hg6:W.heap.size+2 < w1.heap.size:=blk_lt HD.out.b6
  have m0_:¬ W.heap.size=w1.heap.size:=by omega
  have n0_:¬ w1.heap.size=W.heap.size:=by omega
  have m1_:¬ W.heap.size+1=w1.heap.size:=by omega
  have n1_:¬ w1.heap.size=W.heap.size+1:=by omega
  go_region_held3 (fun w'=>w'.cell? ⟨W.heap.size,0,none⟩=some (.int .i64 room)∧w'.cell? ⟨W.heap.size,1,none⟩=some (.int .i64 tmo)∧w'.cell? ⟨W.heap.size,2,none⟩=some (.slice A1 l.length c1)∧w'.cell? ⟨W.heap.size,3,none⟩=some (.slice A2 lb.length c2)∧w'.cell? ⟨W.heap.size+1,1,none⟩=some (.int .i64 node)∧w'.cell? ⟨W.heap.size+1,6,none⟩=some (.bool on)) (go_keep)
   (first
    | (go_at_call 76;refine (HV.out _).mono ?_;rintro e w' ⟨rfl,rfl⟩)
    | (go_at_call 75;refine (ref_set (HR.out.below (by repeat (first|(with_reducible first|exact Below.refl _ _|apply below_alloc|apply pw_below_drewN|apply below_drew1)|exact Below.refl _ _))) (below_step HT.out.bel (by repeat (first|(with_reducible first|exact Below.refl _ _|apply below_alloc|apply pw_below_drewN|apply below_drew1)|exact Below.refl _ _))) room tmo node HKK.out).mono ?_;rintro e w3 ⟨V2,V3,he,rd⟩;rw [HLR.out] at rd;rw [HCR.out] at he;subst he;have hz:=rd.blk (b:=w1.heap.size) (t:=45) (cells:=#[.int .i64 0,.int .i64 0,.slice none 0 0,.slice none 0 0]) (by first|exact heap_alloc_new _ _|exact blk_drew (heap_alloc_new _ _)|exact blk_drewN (heap_alloc_new _ _) _) (by decide) (by decide);obtain ⟨A3,c3,hA3⟩:=rd.rt.sl;subst hA3;obtain ⟨A4,c4,hA4⟩:=rd.rt.sb;subst hA4;have HT3:=Aside0.mk ((HT.out.below (by repeat (first|(with_reducible first|exact Below.refl _ _|apply below_alloc|apply pw_below_drewN|apply below_drew1)|exact Below.refl _ _))).refd rd.kept rd.bel);have HR3:=Aside0.mk rd.rt;have HD3:=Aside0.mk ((HD.out.below (by repeat (first|(with_reducible first|exact Below.refl _ _|apply below_alloc|apply pw_below_drewN|apply below_drew1)|exact Below.refl _ _))).ref rd.kept);clear rd k0 k1 k2 k3 a1 a6;have k0:=(show w3.cell? ⟨W.heap.size,0,none⟩=some (.int .i64 room) from blk_cell HD3.out.b4 0);have k1:=(show w3.cell? ⟨W.heap.size,1,none⟩=some (.int .i64 tmo) from blk_cell HD3.out.b4 1);have k2:=(show w3.cell? ⟨W.heap.size,2,none⟩=some (.slice A1 l.length c1) from blk_cell HD3.out.b4 2);have k3:=(show w3.cell? ⟨W.heap.size,3,none⟩=some (.slice A2 lb.length c2) from blk_cell HD3.out.b4 3);have a1:=(show w3.cell? ⟨W.heap.size+1,1,none⟩=some (.int .i64 node) from blk_cell HD3.out.b5 1);have a6:=(show w3.cell? ⟨W.heap.size+1,6,none⟩=some (.bool on) from blk_cell HD3.out.b5 6);have hg7:=(show W.heap.size+2 < w3.heap.size from blk_lt HD3.out.b6);have m2_:=(show ¬ W.heap.size=w3.heap.size by omega);have n2_:=(show ¬ w3.heap.size=W.heap.size by omega);have m3_:=(show ¬ W.heap.size+1=w3.heap.size by omega);have n3_:=(show ¬ w3.heap.size=W.heap.size+1 by omega);have u0:=(show w3.cell? ⟨w1.heap.size,0,none⟩=some (.int .i64 0) from blk_cell hz 0);have uz0:=(show w3.frozen? ⟨w1.heap.size,0,none⟩=false from blk_frozen hz 0);have u1:=(show w3.cell? ⟨w1.heap.size,1,none⟩=some (.int .i64 0) from blk_cell hz 1);have uz1:=(show w3.frozen? ⟨w1.heap.size,1,none⟩=false from blk_frozen hz 1);have u2:=(show w3.cell? ⟨w1.heap.size,2,none⟩=some (.slice none 0 0) from blk_cell hz 2);have uz2:=(show w3.frozen? ⟨w1.heap.size,2,none⟩=false from blk_frozen hz 2);have u3:=(show w3.cell? ⟨w1.heap.size,3,none⟩=some (.slice none 0 0) from blk_cell hz 3);have uz3:=(show w3.frozen? ⟨w1.heap.size,3,none⟩=false from blk_frozen hz 3);have HZ:=Aside0.mk hz;clear hz)
    | (go_at_call 75;refine (ref_set (HR.out.below (by repeat (first|(with_reducible first|exact Below.refl _ _|apply below_alloc|apply pw_below_drewN|apply below_drew1)|exact Below.refl _ _))) (below_step HT.out.bel (by repeat (first|(with_reducible first|exact Below.refl _ _|apply below_alloc|apply pw_below_drewN|apply below_drew1)|exact Below.refl _ _))) room tmo node HKK.out).mono ?_;rintro e w3 ⟨V2,V3,he,rd⟩;rw [HLR.out] at rd;rw [HCR.out] at he;subst he;obtain ⟨A3,c3,hA3⟩:=rd.rt.sl;subst hA3;obtain ⟨A4,c4,hA4⟩:=rd.rt.sb;subst hA4;have HT3:=Aside0.mk ((HT.out.below (by repeat (first|(with_reducible first|exact Below.refl _ _|apply below_alloc|apply pw_below_drewN|apply below_drew1)|exact Below.refl _ _))).refd rd.kept rd.bel);have HR3:=Aside0.mk rd.rt;have HD3:=Aside0.mk ((HD.out.below (by repeat (first|(with_reducible first|exact Below.refl _ _|apply below_alloc|apply pw_below_drewN|apply below_drew1)|exact Below.refl _ _))).ref rd.kept);clear rd k0 k1 k2 k3 a1 a6;have k0:=(show w3.cell? ⟨W.heap.size,0,none⟩=some (.int .i64 room) from blk_cell HD3.out.b4 0);have k1:=(show w3.cell? ⟨W.heap.size,1,none⟩=some (.int .i64 tmo) from blk_cell HD3.out.b4 1);have k2:=(show w3.cell? ⟨W.heap.size,2,none⟩=some (.slice A1 l.length c1) from blk_cell HD3.out.b4 2);have k3:=(show w3.cell? ⟨W.heap.size,3,none⟩=some (.slice A2 lb.length c2) from blk_cell HD3.out.b4 3);have a1:=(show w3.cell? ⟨W.heap.size+1,1,none⟩=some (.int .i64 node) from blk_cell HD3.out.b5 1);have a6:=(show w3.cell? ⟨W.heap.size+1,6,none⟩=some (.bool on) from blk_cell HD3.out.b5 6);have hg7:=(show W.heap.size+2 < w3.heap.size from blk_lt HD3.out.b6);have m2_:=(show ¬ W.heap.size=w3.heap.size by omega);have n2_:=(show ¬ w3.heap.size=W.heap.size by omega);have m3_:=(show ¬ W.heap.size+1=w3.heap.size by omega);have n3_:=(show ¬ w3.heap.size=W.heap.size+1 by omega)))
  all_goals
   (try go_wp2_with fail)
   go_meet
   case rel =>
    have hws:=HWS.out
    first
    | exact ⟨w1.heap.size,A3,c3,A4,c4,rfl,rfl,by omega,by omega,⟨HT3.out.keepB HZ.out (by decide) (by decide) (set4 HZ.out _ _ _ _).2 ((((HT3.out.bel.setCell (by show w.heap.size≤w1.heap.size;omega) _).setCell (by show w.heap.size≤w1.heap.size;omega) _).setCell (by show w.heap.size≤w1.heap.size;omega) _).setCell (by show w.heap.size≤w1.heap.size;omega) _)⟩,⟨HR3.out.keep45 HZ.out (set4 HZ.out _ _ _ _).2⟩,⟨HD3.out.keepB (set4 HZ.out _ _ _ _).2 (by omega) (by omega) (by omega) (by omega)⟩,⟨(set4 HZ.out _ _ _ _).1⟩⟩
    | exact ⟨w3.heap.size,A3,c3,A4,c4,rfl,rfl,by omega,by omega,⟨HT3.out.below (below_alloc (Below.refl _ _) _)⟩,⟨HR3.out.below (below_alloc (Below.refl _ _) _)⟩,⟨HD3.out.below (below_alloc (Below.refl _ _) _)⟩,⟨heap_alloc_new _ _⟩⟩
    | (trace_state;sorry)
 case rest =>
  obtain ⟨g8,A3,c3,A4,c4,rfl,rfl,hn8,hn9,HT4,HR4,HD4,HQ4⟩:=hcut
  clear HT HR HD HKK HV
  (try go_wp2_with fail)
  have q0:=(show wc.cell? ⟨g8,0,none⟩=some (.int .i64 room) from blk_cell HQ4.out 0)
  have q1:=(show wc.cell? ⟨g8,1,none⟩=some (.int .i64 tmo) from blk_cell HQ4.out 1)
  have q2:=(show wc.cell? ⟨g8,2,none⟩=some (.slice A3 l'.length c3) from blk_cell HQ4.out 2)
  have q3:=(show wc.cell? ⟨g8,3,none⟩=some (.slice A4 lb.length c4) from blk_cell HQ4.out 3)
  have a1:=(show wc.cell? ⟨W.heap.size+1,1,none⟩=some (.int .i64 node) from blk_cell HD4.out.b5 1)
  have a6:=(show wc.cell? ⟨W.heap.size+1,6,none⟩=some (.bool on) from blk_cell HD4.out.b5 6)
  go_region_held3 (fun w'=>w'.cell? ⟨g8,0,none⟩=some (.int .i64 room)∧w'.cell? ⟨g8,1,none⟩=some (.int .i64 tmo)∧w'.cell? ⟨g8,2,none⟩=some (.slice A3 l'.length c3)∧w'.cell? ⟨g8,3,none⟩=some (.slice A4 lb.length c4)∧w'.cell? ⟨W.heap.size+1,1,none⟩=some (.int .i64 node)∧w'.cell? ⟨W.heap.size+1,6,none⟩=some (.bool on)) (go_keep)
   (first|(go_at_call 31;refine ((HT4.out.below (by repeat (first|(with_reducible first|exact Below.refl _ _|apply below_alloc|apply pw_below_drewN|apply below_drew1)|exact Below.refl _ _))).SetOpen_any node on).mono ?_;rintro e w5 ⟨he,d⟩;rw [HC.out] at he;rw [HM.out] at d;subst he;have hm:=(show Below wc.heap.size wc _ from (by repeat (first|(with_reducible first|exact Below.refl _ _|apply below_alloc|apply pw_below_drewN|apply below_drew1)|exact Below.refl _ _):Below wc.heap.size wc wc.drew));have HT5:=Aside0.mk d.pt;have HR5:=Aside0.mk ((HR4.out.below hm).foot d.kept);have HD5:=Aside0.mk ((HD4.out.below hm).foot d.kept);have HQ5:=Aside0.mk (blk_kept (blk_below HQ4.out hm) d.kept (foot_not (blk_below HQ4.out hm) (by decide) (by decide)));clear d hm q0 q1 q2 q3 a1 a6;have q0:=(show w5.cell? ⟨g8,0,none⟩=some (.int .i64 room) from blk_cell HQ5.out 0);have q1:=(show w5.cell? ⟨g8,1,none⟩=some (.int .i64 tmo) from blk_cell HQ5.out 1);have q2:=(show w5.cell? ⟨g8,2,none⟩=some (.slice A3 l'.length c3) from blk_cell HQ5.out 2);have q3:=(show w5.cell? ⟨g8,3,none⟩=some (.slice A4 lb.length c4) from blk_cell HQ5.out 3);have a1:=(show w5.cell? ⟨W.heap.size+1,1,none⟩=some (.int .i64 node) from blk_cell HD5.out.b5 1);have a6:=(show w5.cell? ⟨W.heap.size+1,6,none⟩=some (.bool on) from blk_cell HD5.out.b5 6);have s0:=(show w5.cell? ⟨W.heap.size+1+1,0,none⟩=some (.int .i64 0) from blk_cell HD5.out.b6 0);have z0:=(show w5.frozen? ⟨W.heap.size+1+1,0,none⟩=false from blk_frozen HD5.out.b6 0);have s1:=(show w5.cell? ⟨W.heap.size+1+1,1,none⟩=some (.int .i64 0) from blk_cell HD5.out.b6 1);have z1:=(show w5.frozen? ⟨W.heap.size+1+1,1,none⟩=false from blk_frozen HD5.out.b6 1);have s2:=(show w5.cell? ⟨W.heap.size+1+1,2,none⟩=some (.slice none 0 0) from blk_cell HD5.out.b6 2);have z2:=(show w5.frozen? ⟨W.heap.size+1+1,2,none⟩=false from blk_frozen HD5.out.b6 2);have s3:=(show w5.cell? ⟨W.heap.size+1+1,3,none⟩=some (.slice none 0 0) from blk_cell HD5.out.b6 3);have z3:=(show w5.frozen? ⟨W.heap.size+1+1,3,none⟩=false from blk_frozen HD5.out.b6 3)))
  all_goals
   (try go_wp2_with fail)
   have hs4:=set4 (b:=W.heap.size+1+1) HD5.out.b6 (.int .i64 room) (.int .i64 tmo) (.slice A3 l'.length c3) (.slice A4 lb.length c4)
   refine bodyPost_ret (v:=.tuple #[.agg #[.int .i64 room,.int .i64 tmo,.slice A3 l'.length c3,.slice A4 lb.length c4],.bool (cT == cR)]) (results_list (rs:=[.cell 6 45,.tmp 7]) rfl (by simp) (.cell (W.heap.size+2) 45 _ (0,0) _ rfl hs4.1 Try.underlying45 rfl info45z (.tmp .nil))) rfl ?_
   have hge:w.heap.size≤W.heap.size+2:=Nat.le_trans HWS.out (Nat.le_add_right _ _)
   exact ⟨_,_,rfl,HT5.out.keepB HD5.out.b6 (by decide) (by decide) hs4.2 ((((HT5.out.bel.setCell hge _).setCell hge _).setCell hge _).setCell hge _),HR5.out.keep45 HD5.out.b6 hs4.2,HD5.out.kp.of_keep hs4.2 (.inr (by omega))⟩
set_option maxHeartbeats 1600000 in
set_option maxRecDepth 100000 in
theorem set8_calls {room0 tmo0:Int} (t:PT w W g room0 tmo0 m bs) (r:RT w W VL VB l lb) (hl:l.length < 1000000) (v:Int) (hv:v=(if on=true then 1 else 0)) {cT cR:Int} {mT:PM} {l':List Rf} (hC:(withC m node)=cT) (hcR:(setR l node false (fun q=>{ q with f5:=v == (1:Int) })).2=cR) (hM:(setM m node (fun p=>{ p with f5:=on }))=mT) (hl':(setR l node false (fun q=>{ q with f5:=v == (1:Int) })).1=l') :
  Calls Try.prog 58 #[.pointer (some ⟨g,0,none⟩),.agg #[.int .i64 room,.int .i64 tmo,VL,VB],.agg #[.int .i64 8,.int .i64 node,.int .i64 num,.int .i64 x,.int .i64 y,.string s,.bool on]] W fun e W2=>∃ V2 V3,e=.returned (.tuple #[.agg #[.int .i64 room,.int .i64 tmo,V2,V3],.bool (decide (cT=cR))])∧PT w W2 g room0 tmo0 mT bs∧RT w W2 V2 V3 l' lb∧Kept W W2 (TyS W):=by
 obtain ⟨A1,c1,rfl⟩:=r.sl
 obtain ⟨A2,c2,rfl⟩:=r.sb
 obtain ⟨kk,hkk⟩:=(Go.Proofs.Ytpejjpecdkbleaa.Pure.set4_f room tmo l lb node v ⟨#[]⟩ hl).rounds
 have HKK:=Aside0.mk hkk
 have HT:=Aside0.mk (t.below (below3 W (.cells #[.int .i64 room,.int .i64 tmo,.slice A1 l.length c1,.slice A2 lb.length c2] 45) (.cells #[.int .i64 8,.int .i64 node,.int .i64 num,.int .i64 x,.int .i64 y,.string s,.bool on] 42) (.cells #[.int .i64 0,.int .i64 0,.slice none 0 0,.slice none 0 0] 45)))
 have HR:=Aside0.mk (r.below (below3 W (.cells #[.int .i64 room,.int .i64 tmo,.slice A1 l.length c1,.slice A2 lb.length c2] 45) (.cells #[.int .i64 8,.int .i64 node,.int .i64 num,.int .i64 x,.int .i64 y,.string s,.bool on] 42) (.cells #[.int .i64 0,.int .i64 0,.slice none 0 0,.slice none 0 0] 45)))
 have HD:=Aside0.mk (DLoc.start W room tmo (.slice A1 l.length c1) (.slice A2 lb.length c2) 8 node num x y s on)
 have HLR:=Aside0.mk hl'
 have HCR:=Aside0.mk hcR
 have HC:=Aside0.mk hC
 have HM:=Aside0.mk hM
 clear hl' hcR hC hM
 have HWS:=Aside0.mk (show w.heap.size≤W.heap.size from t.bel.size)
 clear hkk t r hl
 have HV:=Aside0.mk (show ∀ W,Calls Try.prog 76 #[.bool on] W fun e W2=>e=.returned (.int .i64 v)∧W2=W from fun W=>by rw [hv];exact num_calls on W)
 clear hv
 go_enter Try.func58,Try.ntmps58
 go_wp2_with fail
 obtain ⟨w1,hw1⟩:∃ w1,w1=(((W.alloc (.cells #[.int .i64 room,.int .i64 tmo,.slice A1 l.length c1,.slice A2 lb.length c2] 45)).alloc (.cells #[.int .i64 8,.int .i64 node,.int .i64 num,.int .i64 x,.int .i64 y,.string s,.bool on] 42)).alloc (.cells #[.int .i64 0,.int .i64 0,.slice none 0 0,.slice none 0 0] 45)):=⟨_,rfl⟩
 rw [← hw1] at HT HR HD ⊢
 clear hw1
 go_cut [16,17] from 106 to 115 (fun v12 v13 wc=>∃ (g8:Nat) (A3:Option Addr) (c3:Nat) (A4:Option Addr) (c4:Nat),v12=.pointer (some ⟨g8,0,none⟩)∧v13=.int .i64 cR∧¬ g8=W.heap.size+1+1∧¬ W.heap.size+1+1=g8∧Aside0 (PT w wc g room0 tmo0 m bs)∧Aside0 (RT w wc (.slice A3 l'.length c3) (.slice A4 lb.length c4) l' lb)∧Aside0 (DLoc W wc room tmo (.slice A1 l.length c1) (.slice A2 lb.length c2) 8 node num x y s on)∧Aside0 (wc.heap[g8]?=some (.cells #[.int .i64 room,.int .i64 tmo,.slice A3 l'.length c3,.slice A4 lb.length c4] 45 (0,0))))
 case first =>
  have k0:w1.cell? ⟨W.heap.size,0,none⟩=some (.int .i64 room):=blk_cell HD.out.b4 0
  have k1:w1.cell? ⟨W.heap.size,1,none⟩=some (.int .i64 tmo):=blk_cell HD.out.b4 1
  have k2:w1.cell? ⟨W.heap.size,2,none⟩=some (.slice A1 l.length c1):=blk_cell HD.out.b4 2
  have k3:w1.cell? ⟨W.heap.size,3,none⟩=some (.slice A2 lb.length c2):=blk_cell HD.out.b4 3
  have a1:w1.cell? ⟨W.heap.size+1,1,none⟩=some (.int .i64 node):=blk_cell HD.out.b5 1
  have a6:w1.cell? ⟨W.heap.size+1,6,none⟩=some (.bool on):=blk_cell HD.out.b5 6
  have hg6:W.heap.size+2 < w1.heap.size:=blk_lt HD.out.b6
  have m0_:¬ W.heap.size=w1.heap.size:=by omega
  have n0_:¬ w1.heap.size=W.heap.size:=by omega
  have m1_:¬ W.heap.size+1=w1.heap.size:=by omega
  have n1_:¬ w1.heap.size=W.heap.size+1:=by omega
  go_region_held3 (fun w'=>w'.cell? ⟨W.heap.size,0,none⟩=some (.int .i64 room)∧w'.cell? ⟨W.heap.size,1,none⟩=some (.int .i64 tmo)∧w'.cell? ⟨W.heap.size,2,none⟩=some (.slice A1 l.length c1)∧w'.cell? ⟨W.heap.size,3,none⟩=some (.slice A2 lb.length c2)∧w'.cell? ⟨W.heap.size+1,1,none⟩=some (.int .i64 node)∧w'.cell? ⟨W.heap.size+1,6,none⟩=some (.bool on)) (go_keep)
   (first
    | (go_at_call 76;refine (HV.out _).mono ?_;rintro e w' ⟨rfl,rfl⟩)
    | (go_at_call 75;refine (ref_set (HR.out.below (by repeat (first|(with_reducible first|exact Below.refl _ _|apply below_alloc|apply pw_below_drewN|apply below_drew1)|exact Below.refl _ _))) (below_step HT.out.bel (by repeat (first|(with_reducible first|exact Below.refl _ _|apply below_alloc|apply pw_below_drewN|apply below_drew1)|exact Below.refl _ _))) room tmo node HKK.out).mono ?_;rintro e w3 ⟨V2,V3,he,rd⟩;rw [HLR.out] at rd;rw [HCR.out] at he;subst he;have hz:=rd.blk (b:=w1.heap.size) (t:=45) (cells:=#[.int .i64 0,.int .i64 0,.slice none 0 0,.slice none 0 0]) (by first|exact heap_alloc_new _ _|exact blk_drew (heap_alloc_new _ _)|exact blk_drewN (heap_alloc_new _ _) _) (by decide) (by decide);obtain ⟨A3,c3,hA3⟩:=rd.rt.sl;subst hA3;obtain ⟨A4,c4,hA4⟩:=rd.rt.sb;subst hA4;have HT3:=Aside0.mk ((HT.out.below (by repeat (first|(with_reducible first|exact Below.refl _ _|apply below_alloc|apply pw_below_drewN|apply below_drew1)|exact Below.refl _ _))).refd rd.kept rd.bel);have HR3:=Aside0.mk rd.rt;have HD3:=Aside0.mk ((HD.out.below (by repeat (first|(with_reducible first|exact Below.refl _ _|apply below_alloc|apply pw_below_drewN|apply below_drew1)|exact Below.refl _ _))).ref rd.kept);clear rd k0 k1 k2 k3 a1 a6;have k0:=(show w3.cell? ⟨W.heap.size,0,none⟩=some (.int .i64 room) from blk_cell HD3.out.b4 0);have k1:=(show w3.cell? ⟨W.heap.size,1,none⟩=some (.int .i64 tmo) from blk_cell HD3.out.b4 1);have k2:=(show w3.cell? ⟨W.heap.size,2,none⟩=some (.slice A1 l.length c1) from blk_cell HD3.out.b4 2);have k3:=(show w3.cell? ⟨W.heap.size,3,none⟩=some (.slice A2 lb.length c2) from blk_cell HD3.out.b4 3);have a1:=(show w3.cell? ⟨W.heap.size+1,1,none⟩=some (.int .i64 node) from blk_cell HD3.out.b5 1);have a6:=(show w3.cell? ⟨W.heap.size+1,6,none⟩=some (.bool on) from blk_cell HD3.out.b5 6);have hg7:=(show W.heap.size+2 < w3.heap.size from blk_lt HD3.out.b6);have m2_:=(show ¬ W.heap.size=w3.heap.size by omega);have n2_:=(show ¬ w3.heap.size=W.heap.size by omega);have m3_:=(show ¬ W.heap.size+1=w3.heap.size by omega);have n3_:=(show ¬ w3.heap.size=W.heap.size+1 by omega);have u0:=(show w3.cell? ⟨w1.heap.size,0,none⟩=some (.int .i64 0) from blk_cell hz 0);have uz0:=(show w3.frozen? ⟨w1.heap.size,0,none⟩=false from blk_frozen hz 0);have u1:=(show w3.cell? ⟨w1.heap.size,1,none⟩=some (.int .i64 0) from blk_cell hz 1);have uz1:=(show w3.frozen? ⟨w1.heap.size,1,none⟩=false from blk_frozen hz 1);have u2:=(show w3.cell? ⟨w1.heap.size,2,none⟩=some (.slice none 0 0) from blk_cell hz 2);have uz2:=(show w3.frozen? ⟨w1.heap.size,2,none⟩=false from blk_frozen hz 2);have u3:=(show w3.cell? ⟨w1.heap.size,3,none⟩=some (.slice none 0 0) from blk_cell hz 3);have uz3:=(show w3.frozen? ⟨w1.heap.size,3,none⟩=false from blk_frozen hz 3);have HZ:=Aside0.mk hz;clear hz)
    | (go_at_call 75;refine (ref_set (HR.out.below (by repeat (first|(with_reducible first|exact Below.refl _ _|apply below_alloc|apply pw_below_drewN|apply below_drew1)|exact Below.refl _ _))) (below_step HT.out.bel (by repeat (first|(with_reducible first|exact Below.refl _ _|apply below_alloc|apply pw_below_drewN|apply below_drew1)|exact Below.refl _ _))) room tmo node HKK.out).mono ?_;rintro e w3 ⟨V2,V3,he,rd⟩;rw [HLR.out] at rd;rw [HCR.out] at he;subst he;obtain ⟨A3,c3,hA3⟩:=rd.rt.sl;subst hA3;obtain ⟨A4,c4,hA4⟩:=rd.rt.sb;subst hA4;have HT3:=Aside0.mk ((HT.out.below (by repeat (first|(with_reducible first|exact Below.refl _ _|apply below_alloc|apply pw_below_drewN|apply below_drew1)|exact Below.refl _ _))).refd rd.kept rd.bel);have HR3:=Aside0.mk rd.rt;have HD3:=Aside0.mk ((HD.out.below (by repeat (first|(with_reducible first|exact Below.refl _ _|apply below_alloc|apply pw_below_drewN|apply below_drew1)|exact Below.refl _ _))).ref rd.kept);clear rd k0 k1 k2 k3 a1 a6;have k0:=(show w3.cell? ⟨W.heap.size,0,none⟩=some (.int .i64 room) from blk_cell HD3.out.b4 0);have k1:=(show w3.cell? ⟨W.heap.size,1,none⟩=some (.int .i64 tmo) from blk_cell HD3.out.b4 1);have k2:=(show w3.cell? ⟨W.heap.size,2,none⟩=some (.slice A1 l.length c1) from blk_cell HD3.out.b4 2);have k3:=(show w3.cell? ⟨W.heap.size,3,none⟩=some (.slice A2 lb.length c2) from blk_cell HD3.out.b4 3);have a1:=(show w3.cell? ⟨W.heap.size+1,1,none⟩=some (.int .i64 node) from blk_cell HD3.out.b5 1);have a6:=(show w3.cell? ⟨W.heap.size+1,6,none⟩=some (.bool on) from blk_cell HD3.out.b5 6);have hg7:=(show W.heap.size+2 < w3.heap.size from blk_lt HD3.out.b6);have m2_:=(show ¬ W.heap.size=w3.heap.size by omega);have n2_:=(show ¬ w3.heap.size=W.heap.size by omega);have m3_:=(show ¬ W.heap.size+1=w3.heap.size by omega);have n3_:=(show ¬ w3.heap.size=W.heap.size+1 by omega)))
  all_goals
   (try go_wp2_with fail)
   go_meet
   case rel =>
    have hws:=HWS.out
    first
    | exact ⟨w1.heap.size,A3,c3,A4,c4,rfl,rfl,by omega,by omega,⟨HT3.out.keepB HZ.out (by decide) (by decide) (set4 HZ.out _ _ _ _).2 ((((HT3.out.bel.setCell (by show w.heap.size≤w1.heap.size;omega) _).setCell (by show w.heap.size≤w1.heap.size;omega) _).setCell (by show w.heap.size≤w1.heap.size;omega) _).setCell (by show w.heap.size≤w1.heap.size;omega) _)⟩,⟨HR3.out.keep45 HZ.out (set4 HZ.out _ _ _ _).2⟩,⟨HD3.out.keepB (set4 HZ.out _ _ _ _).2 (by omega) (by omega) (by omega) (by omega)⟩,⟨(set4 HZ.out _ _ _ _).1⟩⟩
    | exact ⟨w3.heap.size,A3,c3,A4,c4,rfl,rfl,by omega,by omega,⟨HT3.out.below (below_alloc (Below.refl _ _) _)⟩,⟨HR3.out.below (below_alloc (Below.refl _ _) _)⟩,⟨HD3.out.below (below_alloc (Below.refl _ _) _)⟩,⟨heap_alloc_new _ _⟩⟩
    | (trace_state;sorry)
 case rest =>
  obtain ⟨g8,A3,c3,A4,c4,rfl,rfl,hn8,hn9,HT4,HR4,HD4,HQ4⟩:=hcut
  clear HT HR HD HKK HV
  (try go_wp2_with fail)
  have q0:=(show wc.cell? ⟨g8,0,none⟩=some (.int .i64 room) from blk_cell HQ4.out 0)
  have q1:=(show wc.cell? ⟨g8,1,none⟩=some (.int .i64 tmo) from blk_cell HQ4.out 1)
  have q2:=(show wc.cell? ⟨g8,2,none⟩=some (.slice A3 l'.length c3) from blk_cell HQ4.out 2)
  have q3:=(show wc.cell? ⟨g8,3,none⟩=some (.slice A4 lb.length c4) from blk_cell HQ4.out 3)
  have a1:=(show wc.cell? ⟨W.heap.size+1,1,none⟩=some (.int .i64 node) from blk_cell HD4.out.b5 1)
  have a6:=(show wc.cell? ⟨W.heap.size+1,6,none⟩=some (.bool on) from blk_cell HD4.out.b5 6)
  go_region_held3 (fun w'=>w'.cell? ⟨g8,0,none⟩=some (.int .i64 room)∧w'.cell? ⟨g8,1,none⟩=some (.int .i64 tmo)∧w'.cell? ⟨g8,2,none⟩=some (.slice A3 l'.length c3)∧w'.cell? ⟨g8,3,none⟩=some (.slice A4 lb.length c4)∧w'.cell? ⟨W.heap.size+1,1,none⟩=some (.int .i64 node)∧w'.cell? ⟨W.heap.size+1,6,none⟩=some (.bool on)) (go_keep)
   (first|(go_at_call 32;refine ((HT4.out.below (by repeat (first|(with_reducible first|exact Below.refl _ _|apply below_alloc|apply pw_below_drewN|apply below_drew1)|exact Below.refl _ _))).SetOpens_any node on).mono ?_;rintro e w5 ⟨he,d⟩;rw [HC.out] at he;rw [HM.out] at d;subst he;have hm:=(show Below wc.heap.size wc _ from (by repeat (first|(with_reducible first|exact Below.refl _ _|apply below_alloc|apply pw_below_drewN|apply below_drew1)|exact Below.refl _ _):Below wc.heap.size wc wc.drew));have HT5:=Aside0.mk d.pt;have HR5:=Aside0.mk ((HR4.out.below hm).foot d.kept);have HD5:=Aside0.mk ((HD4.out.below hm).foot d.kept);have HQ5:=Aside0.mk (blk_kept (blk_below HQ4.out hm) d.kept (foot_not (blk_below HQ4.out hm) (by decide) (by decide)));clear d hm q0 q1 q2 q3 a1 a6;have q0:=(show w5.cell? ⟨g8,0,none⟩=some (.int .i64 room) from blk_cell HQ5.out 0);have q1:=(show w5.cell? ⟨g8,1,none⟩=some (.int .i64 tmo) from blk_cell HQ5.out 1);have q2:=(show w5.cell? ⟨g8,2,none⟩=some (.slice A3 l'.length c3) from blk_cell HQ5.out 2);have q3:=(show w5.cell? ⟨g8,3,none⟩=some (.slice A4 lb.length c4) from blk_cell HQ5.out 3);have a1:=(show w5.cell? ⟨W.heap.size+1,1,none⟩=some (.int .i64 node) from blk_cell HD5.out.b5 1);have a6:=(show w5.cell? ⟨W.heap.size+1,6,none⟩=some (.bool on) from blk_cell HD5.out.b5 6);have s0:=(show w5.cell? ⟨W.heap.size+1+1,0,none⟩=some (.int .i64 0) from blk_cell HD5.out.b6 0);have z0:=(show w5.frozen? ⟨W.heap.size+1+1,0,none⟩=false from blk_frozen HD5.out.b6 0);have s1:=(show w5.cell? ⟨W.heap.size+1+1,1,none⟩=some (.int .i64 0) from blk_cell HD5.out.b6 1);have z1:=(show w5.frozen? ⟨W.heap.size+1+1,1,none⟩=false from blk_frozen HD5.out.b6 1);have s2:=(show w5.cell? ⟨W.heap.size+1+1,2,none⟩=some (.slice none 0 0) from blk_cell HD5.out.b6 2);have z2:=(show w5.frozen? ⟨W.heap.size+1+1,2,none⟩=false from blk_frozen HD5.out.b6 2);have s3:=(show w5.cell? ⟨W.heap.size+1+1,3,none⟩=some (.slice none 0 0) from blk_cell HD5.out.b6 3);have z3:=(show w5.frozen? ⟨W.heap.size+1+1,3,none⟩=false from blk_frozen HD5.out.b6 3)))
  all_goals
   (try go_wp2_with fail)
   have hs4:=set4 (b:=W.heap.size+1+1) HD5.out.b6 (.int .i64 room) (.int .i64 tmo) (.slice A3 l'.length c3) (.slice A4 lb.length c4)
   refine bodyPost_ret (v:=.tuple #[.agg #[.int .i64 room,.int .i64 tmo,.slice A3 l'.length c3,.slice A4 lb.length c4],.bool (cT == cR)]) (results_list (rs:=[.cell 6 45,.tmp 7]) rfl (by simp) (.cell (W.heap.size+2) 45 _ (0,0) _ rfl hs4.1 Try.underlying45 rfl info45z (.tmp .nil))) rfl ?_
   have hge:w.heap.size≤W.heap.size+2:=Nat.le_trans HWS.out (Nat.le_add_right _ _)
   exact ⟨_,_,rfl,HT5.out.keepB HD5.out.b6 (by decide) (by decide) hs4.2 ((((HT5.out.bel.setCell hge _).setCell hge _).setCell hge _).setCell hge _),HR5.out.keep45 HD5.out.b6 hs4.2,HD5.out.kp.of_keep hs4.2 (.inr (by omega))⟩
set_option maxHeartbeats 1600000 in
set_option maxRecDepth 100000 in
theorem set9_calls {room0 tmo0:Int} (t:PT w W g room0 tmo0 m bs) (r:RT w W VL VB l lb) (hl:l.length < 1000000) {cT cR:Int} {mT:PM} {l':List Rf} (hC:(if tickB num=true then withC m node else 1)=cT) (hcR:(setR l node (!decide (0≤num∧num≤1099511627776)) (fun q=>{ q with f7:=if 1099511627776 < q.f7+num then 1099511627776 else q.f7+num })).2=cR) (hM:(if tickB num=true then setM m node (fun p=>{ p with f7:=mn (p.f7+num) 1099511627776 }) else m)=mT) (hl':(setR l node (!decide (0≤num∧num≤1099511627776)) (fun q=>{ q with f7:=if 1099511627776 < q.f7+num then 1099511627776 else q.f7+num })).1=l') (hq:∀ q∈l,0≤q.f7∧q.f7≤1099511627776) :
  Calls Try.prog 58 #[.pointer (some ⟨g,0,none⟩),.agg #[.int .i64 room,.int .i64 tmo,VL,VB],.agg #[.int .i64 9,.int .i64 node,.int .i64 num,.int .i64 x,.int .i64 y,.string s,.bool on]] W fun e W2=>∃ V2 V3,e=.returned (.tuple #[.agg #[.int .i64 room,.int .i64 tmo,V2,V3],.bool (decide (cT=cR))])∧PT w W2 g room0 tmo0 mT bs∧RT w W2 V2 V3 l' lb∧Kept W W2 (TyS W):=by
 obtain ⟨A1,c1,rfl⟩:=r.sl
 obtain ⟨A2,c2,rfl⟩:=r.sb
 obtain ⟨kk,hkk⟩:=(Go.Proofs.Ytpejjpecdkbleaa.Pure.set5_f room tmo l lb node num ⟨#[]⟩ hl hq).rounds
 have HKK:=Aside0.mk hkk
 have HT:=Aside0.mk (t.below (below3 W (.cells #[.int .i64 room,.int .i64 tmo,.slice A1 l.length c1,.slice A2 lb.length c2] 45) (.cells #[.int .i64 9,.int .i64 node,.int .i64 num,.int .i64 x,.int .i64 y,.string s,.bool on] 42) (.cells #[.int .i64 0,.int .i64 0,.slice none 0 0,.slice none 0 0] 45)))
 have HR:=Aside0.mk (r.below (below3 W (.cells #[.int .i64 room,.int .i64 tmo,.slice A1 l.length c1,.slice A2 lb.length c2] 45) (.cells #[.int .i64 9,.int .i64 node,.int .i64 num,.int .i64 x,.int .i64 y,.string s,.bool on] 42) (.cells #[.int .i64 0,.int .i64 0,.slice none 0 0,.slice none 0 0] 45)))
 have HD:=Aside0.mk (DLoc.start W room tmo (.slice A1 l.length c1) (.slice A2 lb.length c2) 9 node num x y s on)
 have HLR:=Aside0.mk hl'
 have HCR:=Aside0.mk hcR
 have HC:=Aside0.mk hC
 have HM:=Aside0.mk hM
 clear hl' hcR hC hM
 have HWS:=Aside0.mk (show w.heap.size≤W.heap.size from t.bel.size)
 clear hkk t r hl hq
 go_enter Try.func58,Try.ntmps58
 go_wp2_with fail
 refine (ref_set HR.out HT.out.bel room tmo node HKK.out).mono ?_
 rintro e w3 ⟨V2,V3,he,rd⟩
 rw [HLR.out] at rd
 rw [HCR.out] at he
 subst he
 obtain ⟨A3,c3,rfl⟩:=rd.rt.sl
 obtain ⟨A4,c4,rfl⟩:=rd.rt.sb
 have HT3:=Aside0.mk (HT.out.refd rd.kept rd.bel)
 have HR3:=Aside0.mk rd.rt
 have HD3:=Aside0.mk (HD.out.ref rd.kept)
 clear rd HT HR HD HKK
 go_wp2_with (refine store_own rfl 45 (.tmp 18) (.tmp 132) rfl w3.heap.size #[.int .i64 room,.int .i64 tmo,.slice A3 l'.length c3,.slice A4 lb.length c4] rfl rfl 45 _ (heap_alloc_new w3 _) info45z rfl (t45_one _ _ _ _ _ _ _ _) ?_;intro w4 hW4 hb hk;have hb4:=(Below.trans (below_alloc (Below.refl _ _) _) hb);have HT4:=Aside0.mk (HT3.out.below hb4);have HR4:=Aside0.mk (HR3.out.below hb4);have HD4:=Aside0.mk (HD3.out.below hb4);have HQ4:=Aside0.mk hW4;have hg8:=blk_lt HD3.out.b6;generalize w3.heap.size=g8 at *;have hn8:¬ g8=W.heap.size+1+1:=(by omega);have hn9:¬ W.heap.size+1+1=g8:=(by omega);clear hg8 hW4 hb hk hb4 HT3 HR3 HD3)
 have q0:=(show w4.cell? ⟨g8,0,none⟩=some (.int .i64 room) from blk_cell HQ4.out 0)
 have q1:=(show w4.cell? ⟨g8,1,none⟩=some (.int .i64 tmo) from blk_cell HQ4.out 1)
 have q2:=(show w4.cell? ⟨g8,2,none⟩=some (.slice A3 l'.length c3) from blk_cell HQ4.out 2)
 have q3:=(show w4.cell? ⟨g8,3,none⟩=some (.slice A4 lb.length c4) from blk_cell HQ4.out 3)
 have a1:=(show w4.cell? ⟨W.heap.size+1,1,none⟩=some (.int .i64 node) from blk_cell HD4.out.b5 1)
 have a2:=(show w4.cell? ⟨W.heap.size+1,2,none⟩=some (.int .i64 num) from blk_cell HD4.out.b5 2)
 go_region_held3 (fun w'=>w'.cell? ⟨g8,0,none⟩=some (.int .i64 room)∧w'.cell? ⟨g8,1,none⟩=some (.int .i64 tmo)∧w'.cell? ⟨g8,2,none⟩=some (.slice A3 l'.length c3)∧w'.cell? ⟨g8,3,none⟩=some (.slice A4 lb.length c4)∧w'.cell? ⟨W.heap.size+1,1,none⟩=some (.int .i64 node)∧w'.cell? ⟨W.heap.size+1,2,none⟩=some (.int .i64 num)) (go_keep)
  (first|(go_at_call 15;refine ((HT4.out.below (by repeat (first|(with_reducible first|exact Below.refl _ _|apply below_alloc|apply pw_below_drewN|apply below_drew1)|exact Below.refl _ _))).Count_any node num).mono ?_;rintro e w5 ⟨he,d⟩;rw [HC.out] at he;rw [HM.out] at d;subst he;have hm:=(show Below w4.heap.size w4 _ from (by repeat (first|(with_reducible first|exact Below.refl _ _|apply below_alloc|apply pw_below_drewN|apply below_drew1)|exact Below.refl _ _):Below w4.heap.size w4 w4.drew));have HT5:=Aside0.mk d.pt;have HR5:=Aside0.mk ((HR4.out.below hm).foot d.kept);have HD5:=Aside0.mk ((HD4.out.below hm).foot d.kept);have HQ5:=Aside0.mk (blk_kept (blk_below HQ4.out hm) d.kept (foot_not (blk_below HQ4.out hm) (by decide) (by decide)));clear d hm q0 q1 q2 q3 a1 a2;have q0:=(show w5.cell? ⟨g8,0,none⟩=some (.int .i64 room) from blk_cell HQ5.out 0);have q1:=(show w5.cell? ⟨g8,1,none⟩=some (.int .i64 tmo) from blk_cell HQ5.out 1);have q2:=(show w5.cell? ⟨g8,2,none⟩=some (.slice A3 l'.length c3) from blk_cell HQ5.out 2);have q3:=(show w5.cell? ⟨g8,3,none⟩=some (.slice A4 lb.length c4) from blk_cell HQ5.out 3);have a1:=(show w5.cell? ⟨W.heap.size+1,1,none⟩=some (.int .i64 node) from blk_cell HD5.out.b5 1);have a2:=(show w5.cell? ⟨W.heap.size+1,2,none⟩=some (.int .i64 num) from blk_cell HD5.out.b5 2);have s0:=(show w5.cell? ⟨W.heap.size+1+1,0,none⟩=some (.int .i64 0) from blk_cell HD5.out.b6 0);have z0:=(show w5.frozen? ⟨W.heap.size+1+1,0,none⟩=false from blk_frozen HD5.out.b6 0);have s1:=(show w5.cell? ⟨W.heap.size+1+1,1,none⟩=some (.int .i64 0) from blk_cell HD5.out.b6 1);have z1:=(show w5.frozen? ⟨W.heap.size+1+1,1,none⟩=false from blk_frozen HD5.out.b6 1);have s2:=(show w5.cell? ⟨W.heap.size+1+1,2,none⟩=some (.slice none 0 0) from blk_cell HD5.out.b6 2);have z2:=(show w5.frozen? ⟨W.heap.size+1+1,2,none⟩=false from blk_frozen HD5.out.b6 2);have s3:=(show w5.cell? ⟨W.heap.size+1+1,3,none⟩=some (.slice none 0 0) from blk_cell HD5.out.b6 3);have z3:=(show w5.frozen? ⟨W.heap.size+1+1,3,none⟩=false from blk_frozen HD5.out.b6 3)))
 all_goals
  (try go_wp2_with fail)
  have hs4:=set4 (b:=W.heap.size+1+1) HD5.out.b6 (.int .i64 room) (.int .i64 tmo) (.slice A3 l'.length c3) (.slice A4 lb.length c4)
  refine bodyPost_ret (v:=.tuple #[.agg #[.int .i64 room,.int .i64 tmo,.slice A3 l'.length c3,.slice A4 lb.length c4],.bool (cT == cR)]) (results_list (rs:=[.cell 6 45,.tmp 7]) rfl (by simp) (.cell (W.heap.size+2) 45 _ (0,0) _ rfl hs4.1 Try.underlying45 rfl info45z (.tmp .nil))) rfl ?_
  have hge:w.heap.size≤W.heap.size+2:=Nat.le_trans HWS.out (Nat.le_add_right _ _)
  exact ⟨_,_,rfl,HT5.out.keepB HD5.out.b6 (by decide) (by decide) hs4.2 ((((HT5.out.bel.setCell hge _).setCell hge _).setCell hge _).setCell hge _),HR5.out.keep45 HD5.out.b6 hs4.2,HD5.out.kp.of_keep hs4.2 (.inr (by omega))⟩
end
end Go.Proofs.Ytpejjpecdkbleaa.Print
/-! #### Pr41 -/
namespace Go.Proofs.Ytpejjpecdkbleaa.Print
open Go.RowKit Go.Proofs.YtpejjpecdkbleaaW.PrintWords Go.Proofs.YtpejjpecdkbleaaW.PrintLast Go.Proofs.YtpejjpecdkbleaaW.PrintMore
attribute [local go_sem] max2_int min2_int max_two min_two max_three min_three max_four min_four
set_option linter.unusedVariables false
set_option linter.unusedSimpArgs false
/-! ### mosaicref04_Same: function 41 -/
def mosaicref04_Same.l0:Nat→List Int→List Int→Int→Option (Bool)
 | 0,_,_,_=>none
 | k+1,x0,x1,x5=>if x5 < (x0.length:Int) then (if 0≤x5 then (if x5 < (x1.length:Int) then (if (rd x0 x5)=(rd x1 x5) then (mosaicref04_Same.l0 k x0 x1 (wrap64 (x5+1))) else (some false)) else (none)) else (none)) else (some true)
def mosaicref04_Same.f (k:Nat) (l0:List Int) (l1:List Int):Option (Bool):=if (l0.length:Int)=(l1.length:Int) then (mosaicref04_Same.l0 k l0 l1 0) else (some false)
theorem mosaicref04_Same.mono_l:∀ k,(∀ y0 y1 y2,LeO (mosaicref04_Same.l0 k y0 y1 y2) (mosaicref04_Same.l0 (k+1) y0 y1 y2))
 | 0=>fun _ _ _ r h=>by simp [mosaicref04_Same.l0] at h
 | k+1=>by
  have ih0:=mosaicref04_Same.mono_l k
  ·
   intro y0 y1 y2
   unfold mosaicref04_Same.l0
   repeat' first
   | (with_reducible exact ih0 _ _ _)
   | (with_reducible exact LeO.refl _)
   | (with_reducible exact LeO.none _)
   | (with_reducible refine LeO.ite ?_ ?_)
   | (with_reducible refine LeO.bind ?_ (fun _=>?_))
   | exact ih0 _ _ _
   | exact LeO.none _
   | refine LeO.ite ?_ ?_
   | refine LeO.bind ?_ (fun _=>?_)
theorem mosaicref04_Same.mono:∀ a0 a1 k,LeO (mosaicref04_Same.f k a0 a1) (mosaicref04_Same.f (k+1) a0 a1):=by
 intro a0 a1 k
 have ih0:=mosaicref04_Same.mono_l k
 unfold mosaicref04_Same.f
 repeat' first
   | (with_reducible exact ih0 _ _ _)
   | (with_reducible exact LeO.refl _)
   | (with_reducible exact LeO.none _)
   | (with_reducible refine LeO.ite ?_ ?_)
   | (with_reducible refine LeO.bind ?_ (fun _=>?_))
   | exact ih0 _ _ _
   | exact LeO.none _
   | refine LeO.ite ?_ ?_
   | refine LeO.bind ?_ (fun _=>?_)
set_option maxHeartbeats 8000000 in
set_option maxRecDepth 100000 in
theorem mosaicref04_Same.calls (k:Nat) (A0:Option Addr) (c0:Nat) (l0:List Int) (A1:Option Addr) (c1:Nat) (l1:List Int) (r:Bool) (w:World) (hr0:Kd.C (Kd.int .i64) w A0 l0.length l0) (hc0:l0.length≤c0) (hr1:Kd.C (Kd.int .i64) w A1 l1.length l1) (hc1:l1.length≤c1) (h:mosaicref04_Same.f k l0 l1=some r) :
  Calls Try.prog 41 #[.slice A0 l0.length c0,.slice A1 l1.length c1] w fun e w'=>e=.returned (.bool r)∧Drawn0 w w':=by
 have HR0:=Aside0.mk hr0
 have HC0:=Aside0.mk hc0
 clear hr0 hc0
 have HR1:=Aside0.mk hr1
 have HC1:=Aside0.mk hc1
 clear hr1 hc1
 have H:(if (l0.length:Int)=(l1.length:Int) then (mosaicref04_Same.l0 k l0 l1 0) else (some false))=some r:=h
 clear h
 by_cases c3:(l0.length:Int)=(l1.length:Int)
 ·
  rw [if_pos c3] at H
  have c3b0:((l0.length:Int) == (l1.length:Int))=true:=beq_iff_eq.mpr c3
  have c3b1:((l0.length:Int) != (l1.length:Int))=false:=bne_eq_false_iff_eq.mpr c3
  have c3b2:(l0.length == l1.length)=true:=by first|simpa using c3|(simp at c3 ⊢;omega)
  clear c3
  have H':=Aside0.mk H
  clear H
  go_enter Try.func41,Try.ntmps41
  go_wp2
  repeat (go_quiet (fail);try go_wp2)
  go_loopg [5] k (fun kq v5 w'=>∃ (x5_1:Int),v5=.int .i64 x5_1∧Aside0 (mosaicref04_Same.l0 kq l0 l1 x5_1=some r)∧Aside0 (kq≤k)∧Drawn0 w w')
  case atStart=>exact ⟨(0),(by first|rfl|(simp;done)|(simp [*];done)),H',⟨Nat.le_refl _⟩,by repeat (first|exact Drawn0.refl _|apply Drawn0.step)⟩
  case round =>
   clear H'
   try clear c1
   try clear p2
   try clear c3
   try clear c3b0
   try clear c3b1
   try clear c3b2
   obtain ⟨x5_1,rfl,HA,HK1,⟨m1,rfl⟩⟩:=hrel
   cases gk with
   | zero=>exact absurd HA.out (by simp [mosaicref04_Same.l0])
   | succ k1 =>
    have H:=HA.out
    clear HA
    simp only [mosaicref04_Same.l0] at H
    by_cases c4:x5_1 < (l0.length:Int)
    ·
     rw [if_pos c4] at H
     have c4b0:decide (x5_1 < (l0.length:Int))=true:=decide_eq_true c4
     clear c4
     by_cases c5:0≤x5_1
     ·
      rw [if_pos c5] at H
      have c5b0:decide (0≤x5_1)=true:=decide_eq_true c5
      clear c5
      by_cases c6:x5_1 < (l1.length:Int)
      ·
       rw [if_pos c6] at H
       have c6b0:decide (x5_1 < (l1.length:Int))=true:=decide_eq_true c6
       clear c6
       by_cases c7:(rd l0 x5_1)=(rd l1 x5_1)
       ·
        rw [if_pos c7] at H
        have c7b0:((rd l0 x5_1) == (rd l1 x5_1))=true:=beq_iff_eq.mpr c7
        have c7b1:((rd l0 x5_1) != (rd l1 x5_1))=false:=bne_eq_false_iff_eq.mpr c7
        clear c7
        have H':=Aside0.mk H
        clear H
        have p1:0≤(x5_1:Int):=of_decide_eq_true (by first|(with_reducible assumption)|assumption)
        have q1:x5_1 < (l0.length:Int):=of_decide_eq_true (by first|(with_reducible assumption)|assumption)
        obtain ⟨ad1,e1,hx1_0⟩:=Kd.at_int HR0.out x5_1 p1 q1
        cases e1
        replace p1:=eq_true p1
        replace q1:=eq_true q1
        have p2:0≤(x5_1:Int):=of_decide_eq_true (by first|(with_reducible assumption)|assumption)
        have q2:x5_1 < (l1.length:Int):=of_decide_eq_true (by first|(with_reducible assumption)|assumption)
        obtain ⟨ad2,e2,hx2_0⟩:=Kd.at_int HR1.out x5_1 p2 q2
        cases e2
        replace p2:=eq_true p2
        replace q2:=eq_true q2
        go_wp2
        repeat (go_quiet (fail);try go_wp2)
        go_roundg k1
        case measure=>have:=HK1.out;omega
        case rel=>exact ⟨(wrap64 (x5_1+1)),(by first|rfl|(simp;done)|(simp [*];done)),H',⟨by have:=HK1.out;omega⟩,by repeat (first|exact Drawn0.refl _|apply Drawn0.step)⟩
       ·
        rw [if_neg c7] at H
        have c7b0:((rd l0 x5_1) == (rd l1 x5_1))=false:=beq_eq_false_iff_ne.mpr c7
        have c7b1:((rd l0 x5_1) != (rd l1 x5_1))=true:=bne_iff_ne.mpr c7
        obtain rfl:=Option.some.inj H
        have p1:0≤(x5_1:Int):=of_decide_eq_true (by first|(with_reducible assumption)|assumption)
        have q1:x5_1 < (l0.length:Int):=of_decide_eq_true (by first|(with_reducible assumption)|assumption)
        obtain ⟨ad1,e1,hx1_0⟩:=Kd.at_int HR0.out x5_1 p1 q1
        cases e1
        replace p1:=eq_true p1
        replace q1:=eq_true q1
        have p2:0≤(x5_1:Int):=of_decide_eq_true (by first|(with_reducible assumption)|assumption)
        have q2:x5_1 < (l1.length:Int):=of_decide_eq_true (by first|(with_reducible assumption)|assumption)
        obtain ⟨ad2,e2,hx2_0⟩:=Kd.at_int HR1.out x5_1 p2 q2
        cases e2
        replace p2:=eq_true p2
        replace q2:=eq_true q2
        go_wp2
        repeat (go_quiet (fail);try go_wp2)
        go_ret
        exact ⟨by first|rfl|(simp;done)|(simp [*];done),by repeat (first|exact Drawn0.refl _|apply Drawn0.step)⟩
      ·
       rw [if_neg c6] at H
       exact absurd H (by simp)
     ·
      rw [if_neg c5] at H
      exact absurd H (by simp)
    ·
     rw [if_neg c4] at H
     have c4b0:decide (x5_1 < (l0.length:Int))=false:=decide_eq_false c4
     clear c4
     obtain rfl:=Option.some.inj H
     go_wp2
     repeat (go_quiet (fail);try go_wp2)
     go_ret
     exact ⟨by first|rfl|(simp;done)|(simp [*];done),by repeat (first|exact Drawn0.refl _|apply Drawn0.step)⟩
 ·
  rw [if_neg c3] at H
  have c3b0:((l0.length:Int) == (l1.length:Int))=false:=beq_eq_false_iff_ne.mpr c3
  have c3b1:((l0.length:Int) != (l1.length:Int))=true:=bne_iff_ne.mpr c3
  have c3b2:(l0.length == l1.length)=false:=by first|simpa using c3|(simp at c3 ⊢;omega)
  obtain rfl:=Option.some.inj H
  go_enter Try.func41,Try.ntmps41
  go_wp2
  repeat (go_quiet (fail);try go_wp2)
  go_ret
  exact ⟨by first|rfl|(simp;done)|(simp [*];done),by repeat (first|exact Drawn0.refl _|apply Drawn0.step)⟩
end Go.Proofs.Ytpejjpecdkbleaa.Print
/-! #### PurePeers3 -/
/- Same: two lists of numbers are one. -/
namespace Go.Proofs.Ytpejjpecdkbleaa.Pure
open Go.RowKit Go.Proofs.Ytpejjpecdkbleaa.Print Go.Proofs.YtpejjpecdkbleaaW.PrintWords Go.Proofs.YtpejjpecdkbleaaW.PrintLast Go.Proofs.YtpejjpecdkbleaaW.PrintMore
set_option linter.unusedVariables false
set_option linter.unusedSimpArgs false
theorem same_ev (a b:List Int) (hl:a.length < 1000000) (hab:a.length=b.length):∀ (d i:Nat),i+d=a.length→Ev (fun k=>mosaicref04_Same.l0 k a b (i:Int)) (decide (a.drop i=b.drop i))
 | 0,i,h=>by
  refine Ev.succ ?_
  simp only [mosaicref04_Same.l0]
  refine Ev.neg (by omega) (Ev.some_ ?_)
  rw [List.drop_eq_nil_of_le (by omega),List.drop_eq_nil_of_le (by omega)]
  rfl
 | d+1,i,h=>by
  have hi:i < a.length:=by omega
  have hj:i < b.length:=by omega
  refine Ev.succ ?_
  simp only [mosaicref04_Same.l0]
  rw [rd_lt a i hi,rd_lt b i hj,List.drop_eq_getElem_cons hi,List.drop_eq_getElem_cons hj,wrap_succ i (by omega)]
  refine Ev.pos (by omega) (Ev.pos (by omega) (Ev.pos (by omega) ?_))
  by_cases hx:a[i]=b[i]
  ·
   refine Ev.pos hx ((same_ev a b hl hab d (i+1) (by omega)).to ?_)
   rw [decide_eq_decide,hx]
   exact ⟨fun h=>by rw [h],fun h=>by injection h⟩
  ·
   refine Ev.neg hx (Ev.some_ ?_)
   exact (decide_eq_false (fun h=>hx (by injection h))).symm
theorem same_f (a b:List Int) (hl:a.length < 1000000):Ev (fun k=>mosaicref04_Same.f k a b) (decide (a=b)):=by
 unfold mosaicref04_Same.f
 by_cases h:(a.length:Int)=(b.length:Int)
 ·
  refine Ev.pos h ((same_ev a b hl (by omega) a.length 0 (by omega)).to ?_)
  rw [List.drop_zero,List.drop_zero]
 ·
  refine Ev.neg h (Ev.some_ ?_)
  exact (decide_eq_false (fun e=>h (by rw [e]))).symm
end Go.Proofs.Ytpejjpecdkbleaa.Pure
/-! #### MaPeers17 -/
/- peers: acts on both tables: do. -/
namespace Go.Proofs.Ytpejjpecdkbleaa.Print
open Go.RowKit Go.Proofs.YtpejjpecdkbleaaW.PrintWords Go.Proofs.YtpejjpecdkbleaaW.PrintLast Go.Proofs.YtpejjpecdkbleaaW.PrintMore
open Go.Proofs.Ytpejjpecdkbleaa.Pure (withoutL findI insG metR meetR lateR expR setR leaveR leave_f rollR roll_f same_f)
set_option linter.unusedVariables false
set_option linter.unusedSimpArgs false
section
variable {w W W0 W2 W3:World} {VL VB:Value} {l:List Rf} {lb:List Int} {room tmo x y n now kind node num:Int} {s:ByteArray} {on:Bool} {g:Nat} {m:PM} {bs:List Bool}
theorem DLoc.tys (h:DLoc W W2 room tmo VL VB kind node num x y s on) (hk:Kept W2 W3 (TyS W2)):DLoc W W3 room tmo VL VB kind node num x y s on:=⟨blk_kept h.b4 hk (tyS_not h.b4 (by decide) (by decide) (by decide) (by decide)),blk_kept h.b5 hk (tyS_not h.b5 (by decide) (by decide) (by decide) (by decide)),blk_kept h.b6 hk (tyS_not h.b6 (by decide) (by decide) (by decide) (by decide)),TyS.tys h.kp hk⟩
theorem new3 (W:World) (a b c:Obj):(((W.alloc a).alloc b).alloc c).heap[W.heap.size+2]?=some c:=by
 have:=heap_alloc_new ((W.alloc a).alloc b) c
 rwa [show ((W.alloc a).alloc b).heap.size=W.heap.size+2 by simp] at this
set_option maxHeartbeats 3200000 in
set_option maxRecDepth 100000 in
theorem do2_calls {room0 tmo0:Int} (t:PT w W g room0 tmo0 m bs) (r:RT w W VL VB l lb) (hl:l.length < 1000000) (hlb:lb.length < 1000000) {cT cR:Int} {mT:PM} {l':List Rf} (hC:withC m node=cT) (hcR:(leaveR l node).2=cR) (hM:leaveM m node=mT) (hl':(leaveR l node).1=l') :
  Calls Try.prog 20 #[.pointer (some ⟨g,0,none⟩),.agg #[.int .i64 room,.int .i64 tmo,VL,VB],.agg #[.int .i64 2,.int .i64 node,.int .i64 num,.int .i64 x,.int .i64 y,.string s,.bool on]] W fun e W2=>∃ V2 V3,e=.returned (.tuple #[.agg #[.int .i64 room,.int .i64 tmo,V2,V3],.bool (decide (cT=cR))])∧PT w W2 g room0 tmo0 mT bs∧RT w W2 V2 V3 l' lb∧Kept W W2 (TyS W):=by
 obtain ⟨A1,c1,rfl⟩:=r.sl
 obtain ⟨A2,c2,rfl⟩:=r.sb
 have HT:=Aside0.mk (t.below (below3 W (.cells #[.int .i64 room,.int .i64 tmo,.slice A1 l.length c1,.slice A2 lb.length c2] 45) (.cells #[.int .i64 2,.int .i64 node,.int .i64 num,.int .i64 x,.int .i64 y,.string s,.bool on] 42) (.cells #[.int .i64 0,.int .i64 0,.slice none 0 0,.slice none 0 0] 45)))
 have HR:=Aside0.mk (r.below (below3 W (.cells #[.int .i64 room,.int .i64 tmo,.slice A1 l.length c1,.slice A2 lb.length c2] 45) (.cells #[.int .i64 2,.int .i64 node,.int .i64 num,.int .i64 x,.int .i64 y,.string s,.bool on] 42) (.cells #[.int .i64 0,.int .i64 0,.slice none 0 0,.slice none 0 0] 45)))
 have HD:=Aside0.mk (DLoc.start W room tmo (.slice A1 l.length c1) (.slice A2 lb.length c2) 2 node num x y s on)
 have HWS:=Aside0.mk (show w.heap.size≤W.heap.size from t.bel.size)
 have HLL:=Aside0.mk (And.intro hl hlb)
 have HLR:=Aside0.mk hl'
 have HCR:=Aside0.mk hcR
 have HC:=Aside0.mk hC
 have HM:=Aside0.mk hM
 clear t r hl hlb hl' hcR hC hM
 go_enter Try.func20,Try.ntmps20
 go_wp2_with fail
 refine (ref_leave HR.out HT.out.bel room tmo node HLL.out.1).mono ?_
 rintro e w3 ⟨V2,V3,he,rd⟩
 rw [HLR.out] at rd
 rw [HCR.out] at he
 subst he
 obtain ⟨A3,c3,rfl⟩:=rd.rt.sl
 obtain ⟨A4,c4,rfl⟩:=rd.rt.sb
 have HT3:=Aside0.mk (HT.out.refd rd.kept rd.bel)
 have HR3:=Aside0.mk rd.rt
 have HD3:=Aside0.mk (HD.out.ref rd.kept)
 clear rd HT HR HD
 go_wp2_with (refine store_own rfl 45 (.tmp 10) (.tmp 48) rfl w3.heap.size #[.int .i64 room,.int .i64 tmo,.slice A3 l'.length c3,.slice A4 lb.length c4] rfl rfl 45 _ (heap_alloc_new w3 _) info45z rfl (t45_one _ _ _ _ _ _ _ _) ?_;intro w4 hW4 hb hk;have hb4:=(Below.trans (below_alloc (Below.refl _ _) _) hb);have HT4:=Aside0.mk (HT3.out.below hb4);have HR4:=Aside0.mk (HR3.out.below hb4);have HD4:=Aside0.mk (HD3.out.below hb4);have HQ4:=Aside0.mk hW4;have hg8:=blk_lt HD3.out.b6;generalize w3.heap.size=g8 at *;have hn8:¬ g8=W.heap.size+1+1:=(by omega);have hn9:¬ W.heap.size+1+1=g8:=(by omega);clear hg8 hW4 hb hk hb4 HT3 HR3 HD3)
 have q0:=(show w4.cell? ⟨g8,0,none⟩=some (.int .i64 room) from blk_cell HQ4.out 0)
 have q1:=(show w4.cell? ⟨g8,1,none⟩=some (.int .i64 tmo) from blk_cell HQ4.out 1)
 have q2:=(show w4.cell? ⟨g8,2,none⟩=some (.slice A3 l'.length c3) from blk_cell HQ4.out 2)
 have q3:=(show w4.cell? ⟨g8,3,none⟩=some (.slice A4 lb.length c4) from blk_cell HQ4.out 3)
 have a1:=(show w4.cell? ⟨W.heap.size+1,1,none⟩=some (.int .i64 node) from blk_cell HD4.out.b5 1)
 go_region_held3 (fun w'=>w'.cell? ⟨g8,0,none⟩=some (.int .i64 room)∧w'.cell? ⟨g8,1,none⟩=some (.int .i64 tmo)∧w'.cell? ⟨g8,2,none⟩=some (.slice A3 l'.length c3)∧w'.cell? ⟨g8,3,none⟩=some (.slice A4 lb.length c4)∧w'.cell? ⟨W.heap.size+1,1,none⟩=some (.int .i64 node)) (go_keep)
  (first|(go_at_call 27;refine ((HT4.out.below (by repeat (first|(with_reducible first|exact Below.refl _ _|apply below_alloc|apply pw_below_drewN|apply below_drew1)|exact Below.refl _ _))).Leave_any node).mono ?_;rintro e w5 ⟨he,d⟩;rw [HC.out] at he;rw [HM.out] at d;subst he;have hm:=(show Below w4.heap.size w4 _ from ((by repeat (first|(with_reducible first|exact Below.refl _ _|apply below_alloc|apply pw_below_drewN|apply below_drew1)|exact Below.refl _ _)):Below w4.heap.size w4 w4.drew));have HT5:=Aside0.mk d.pt;have HR5:=Aside0.mk ((HR4.out.below hm).foot d.kept);have HD5:=Aside0.mk ((HD4.out.below hm).foot d.kept);have HQ5:=Aside0.mk (blk_kept (blk_below HQ4.out hm) d.kept (foot_not (blk_below HQ4.out hm) (by decide) (by decide)));clear d hm q0 q1 q2 q3 a1;have q0:=(show w5.cell? ⟨g8,0,none⟩=some (.int .i64 room) from blk_cell HQ5.out 0);have q1:=(show w5.cell? ⟨g8,1,none⟩=some (.int .i64 tmo) from blk_cell HQ5.out 1);have q2:=(show w5.cell? ⟨g8,2,none⟩=some (.slice A3 l'.length c3) from blk_cell HQ5.out 2);have q3:=(show w5.cell? ⟨g8,3,none⟩=some (.slice A4 lb.length c4) from blk_cell HQ5.out 3);have a1:=(show w5.cell? ⟨W.heap.size+1,1,none⟩=some (.int .i64 node) from blk_cell HD5.out.b5 1);have s0:=(show w5.cell? ⟨W.heap.size+1+1,0,none⟩=some (.int .i64 0) from blk_cell HD5.out.b6 0);have z0:=(show w5.frozen? ⟨W.heap.size+1+1,0,none⟩=false from blk_frozen HD5.out.b6 0);have s1:=(show w5.cell? ⟨W.heap.size+1+1,1,none⟩=some (.int .i64 0) from blk_cell HD5.out.b6 1);have z1:=(show w5.frozen? ⟨W.heap.size+1+1,1,none⟩=false from blk_frozen HD5.out.b6 1);have s2:=(show w5.cell? ⟨W.heap.size+1+1,2,none⟩=some (.slice none 0 0) from blk_cell HD5.out.b6 2);have z2:=(show w5.frozen? ⟨W.heap.size+1+1,2,none⟩=false from blk_frozen HD5.out.b6 2);have s3:=(show w5.cell? ⟨W.heap.size+1+1,3,none⟩=some (.slice none 0 0) from blk_cell HD5.out.b6 3);have z3:=(show w5.frozen? ⟨W.heap.size+1+1,3,none⟩=false from blk_frozen HD5.out.b6 3)))
 all_goals
  (try go_wp2_with fail)
  have hs4:=set4 (b:=W.heap.size+1+1) HD5.out.b6 (.int .i64 room) (.int .i64 tmo) (.slice A3 l'.length c3) (.slice A4 lb.length c4)
  refine bodyPost_ret (v:=.tuple #[.agg #[.int .i64 room,.int .i64 tmo,.slice A3 l'.length c3,.slice A4 lb.length c4],.bool (cT == cR)]) (results_list (rs:=[.cell 6 45,.tmp 7]) rfl (by simp) (.cell (W.heap.size+2) 45 _ (0,0) _ rfl hs4.1 Try.underlying45 rfl info45z (.tmp .nil))) rfl ?_
  have hge:w.heap.size≤W.heap.size+2:=Nat.le_trans HWS.out (Nat.le_add_right _ _)
  exact ⟨_,_,rfl,HT5.out.keepB HD5.out.b6 (by decide) (by decide) hs4.2 ((((HT5.out.bel.setCell hge _).setCell hge _).setCell hge _).setCell hge _),HR5.out.keep45 HD5.out.b6 hs4.2,HD5.out.kp.of_keep hs4.2 (.inr (by omega))⟩
set_option maxHeartbeats 3200000 in
set_option maxRecDepth 100000 in
theorem do3_calls {room0 tmo0:Int} (t:PT w W g room0 tmo0 m bs) (r:RT w W VL VB l lb) (hl:l.length < 1000000) (hlb:lb.length < 1000000) {cT cR:Int} {mT:PM} {bsT:List Bool} {l':List Rf} {lb':List Int} (hC:(if peerB node=true then 0 else 1)=cT) (hcR:(banR l lb node).2.2=cR) (hM:(if peerB node=true then m.set node.toNat none else m)=mT) (hB:(if peerB node=true then bs.set node.toNat true else bs)=bsT) (hl':(banR l lb node).1=l') (hlb':(banR l lb node).2.1=lb') :
  Calls Try.prog 20 #[.pointer (some ⟨g,0,none⟩),.agg #[.int .i64 room,.int .i64 tmo,VL,VB],.agg #[.int .i64 3,.int .i64 node,.int .i64 num,.int .i64 x,.int .i64 y,.string s,.bool on]] W fun e W2=>∃ V2 V3,e=.returned (.tuple #[.agg #[.int .i64 room,.int .i64 tmo,V2,V3],.bool (decide (cT=cR))])∧PT w W2 g room0 tmo0 mT bsT∧RT w W2 V2 V3 l' lb'∧Kept W W2 (TyS W):=by
 obtain ⟨A1,c1,rfl⟩:=r.sl
 obtain ⟨A2,c2,rfl⟩:=r.sb
 have HT:=Aside0.mk (t.below (below3 W (.cells #[.int .i64 room,.int .i64 tmo,.slice A1 l.length c1,.slice A2 lb.length c2] 45) (.cells #[.int .i64 3,.int .i64 node,.int .i64 num,.int .i64 x,.int .i64 y,.string s,.bool on] 42) (.cells #[.int .i64 0,.int .i64 0,.slice none 0 0,.slice none 0 0] 45)))
 have HR:=Aside0.mk (r.below (below3 W (.cells #[.int .i64 room,.int .i64 tmo,.slice A1 l.length c1,.slice A2 lb.length c2] 45) (.cells #[.int .i64 3,.int .i64 node,.int .i64 num,.int .i64 x,.int .i64 y,.string s,.bool on] 42) (.cells #[.int .i64 0,.int .i64 0,.slice none 0 0,.slice none 0 0] 45)))
 have HD:=Aside0.mk (DLoc.start W room tmo (.slice A1 l.length c1) (.slice A2 lb.length c2) 3 node num x y s on)
 have HWS:=Aside0.mk (show w.heap.size≤W.heap.size from t.bel.size)
 have HLL:=Aside0.mk (And.intro hl hlb)
 have HLR:=Aside0.mk hl'
 have HCR:=Aside0.mk hcR
 have HC:=Aside0.mk hC
 have HM:=Aside0.mk hM
 have HBS:=Aside0.mk hB
 have HLBR:=Aside0.mk hlb'
 clear t r hl hlb hl' hcR hC hM hB hlb'
 go_enter Try.func20,Try.ntmps20
 go_wp2_with fail
 refine (ref_ban HR.out HT.out.bel room tmo node HLL.out.1 HLL.out.2).mono ?_
 rintro e w3 ⟨V2,V3,he,rd⟩
 rw [HLR.out,HLBR.out] at rd
 rw [HCR.out] at he
 subst he
 obtain ⟨A3,c3,rfl⟩:=rd.rt.sl
 obtain ⟨A4,c4,rfl⟩:=rd.rt.sb
 have HT3:=Aside0.mk (HT.out.refd rd.kept rd.bel)
 have HR3:=Aside0.mk rd.rt
 have HD3:=Aside0.mk (HD.out.ref rd.kept)
 clear rd HT HR HD
 go_wp2_with (refine store_own rfl 45 (.tmp 12) (.tmp 64) rfl w3.heap.size #[.int .i64 room,.int .i64 tmo,.slice A3 l'.length c3,.slice A4 lb'.length c4] rfl rfl 45 _ (heap_alloc_new w3 _) info45z rfl (t45_one _ _ _ _ _ _ _ _) ?_;intro w4 hW4 hb hk;have hb4:=(Below.trans (below_alloc (Below.refl _ _) _) hb);have HT4:=Aside0.mk (HT3.out.below hb4);have HR4:=Aside0.mk (HR3.out.below hb4);have HD4:=Aside0.mk (HD3.out.below hb4);have HQ4:=Aside0.mk hW4;have hg8:=blk_lt HD3.out.b6;generalize w3.heap.size=g8 at *;have hn8:¬ g8=W.heap.size+1+1:=(by omega);have hn9:¬ W.heap.size+1+1=g8:=(by omega);clear hg8 hW4 hb hk hb4 HT3 HR3 HD3)
 have q0:=(show w4.cell? ⟨g8,0,none⟩=some (.int .i64 room) from blk_cell HQ4.out 0)
 have q1:=(show w4.cell? ⟨g8,1,none⟩=some (.int .i64 tmo) from blk_cell HQ4.out 1)
 have q2:=(show w4.cell? ⟨g8,2,none⟩=some (.slice A3 l'.length c3) from blk_cell HQ4.out 2)
 have q3:=(show w4.cell? ⟨g8,3,none⟩=some (.slice A4 lb'.length c4) from blk_cell HQ4.out 3)
 have a1:=(show w4.cell? ⟨W.heap.size+1,1,none⟩=some (.int .i64 node) from blk_cell HD4.out.b5 1)
 go_region_held3 (fun w'=>w'.cell? ⟨g8,0,none⟩=some (.int .i64 room)∧w'.cell? ⟨g8,1,none⟩=some (.int .i64 tmo)∧w'.cell? ⟨g8,2,none⟩=some (.slice A3 l'.length c3)∧w'.cell? ⟨g8,3,none⟩=some (.slice A4 lb'.length c4)∧w'.cell? ⟨W.heap.size+1,1,none⟩=some (.int .i64 node)) (go_keep)
  (first|(go_at_call 28;refine ((HT4.out.below (by repeat (first|(with_reducible first|exact Below.refl _ _|apply below_alloc|apply pw_below_drewN|apply below_drew1)|exact Below.refl _ _))).Ban_any node).mono ?_;rintro e w5 ⟨he,d⟩;rw [HC.out] at he;rw [HM.out,HBS.out] at d;subst he;have hm:=(show Below w4.heap.size w4 _ from ((by repeat (first|(with_reducible first|exact Below.refl _ _|apply below_alloc|apply pw_below_drewN|apply below_drew1)|exact Below.refl _ _)):Below w4.heap.size w4 w4.drew));have HT5:=Aside0.mk d.pt;have HR5:=Aside0.mk ((HR4.out.below hm).foot d.kept);have HD5:=Aside0.mk ((HD4.out.below hm).foot d.kept);have HQ5:=Aside0.mk (blk_kept (blk_below HQ4.out hm) d.kept (foot_not (blk_below HQ4.out hm) (by decide) (by decide)));clear d hm q0 q1 q2 q3 a1;have q0:=(show w5.cell? ⟨g8,0,none⟩=some (.int .i64 room) from blk_cell HQ5.out 0);have q1:=(show w5.cell? ⟨g8,1,none⟩=some (.int .i64 tmo) from blk_cell HQ5.out 1);have q2:=(show w5.cell? ⟨g8,2,none⟩=some (.slice A3 l'.length c3) from blk_cell HQ5.out 2);have q3:=(show w5.cell? ⟨g8,3,none⟩=some (.slice A4 lb'.length c4) from blk_cell HQ5.out 3);have a1:=(show w5.cell? ⟨W.heap.size+1,1,none⟩=some (.int .i64 node) from blk_cell HD5.out.b5 1);have s0:=(show w5.cell? ⟨W.heap.size+1+1,0,none⟩=some (.int .i64 0) from blk_cell HD5.out.b6 0);have z0:=(show w5.frozen? ⟨W.heap.size+1+1,0,none⟩=false from blk_frozen HD5.out.b6 0);have s1:=(show w5.cell? ⟨W.heap.size+1+1,1,none⟩=some (.int .i64 0) from blk_cell HD5.out.b6 1);have z1:=(show w5.frozen? ⟨W.heap.size+1+1,1,none⟩=false from blk_frozen HD5.out.b6 1);have s2:=(show w5.cell? ⟨W.heap.size+1+1,2,none⟩=some (.slice none 0 0) from blk_cell HD5.out.b6 2);have z2:=(show w5.frozen? ⟨W.heap.size+1+1,2,none⟩=false from blk_frozen HD5.out.b6 2);have s3:=(show w5.cell? ⟨W.heap.size+1+1,3,none⟩=some (.slice none 0 0) from blk_cell HD5.out.b6 3);have z3:=(show w5.frozen? ⟨W.heap.size+1+1,3,none⟩=false from blk_frozen HD5.out.b6 3)))
 all_goals
  (try go_wp2_with fail)
  have hs4:=set4 (b:=W.heap.size+1+1) HD5.out.b6 (.int .i64 room) (.int .i64 tmo) (.slice A3 l'.length c3) (.slice A4 lb'.length c4)
  refine bodyPost_ret (v:=.tuple #[.agg #[.int .i64 room,.int .i64 tmo,.slice A3 l'.length c3,.slice A4 lb'.length c4],.bool (cT == cR)]) (results_list (rs:=[.cell 6 45,.tmp 7]) rfl (by simp) (.cell (W.heap.size+2) 45 _ (0,0) _ rfl hs4.1 Try.underlying45 rfl info45z (.tmp .nil))) rfl ?_
  have hge:w.heap.size≤W.heap.size+2:=Nat.le_trans HWS.out (Nat.le_add_right _ _)
  exact ⟨_,_,rfl,HT5.out.keepB HD5.out.b6 (by decide) (by decide) hs4.2 ((((HT5.out.bel.setCell hge _).setCell hge _).setCell hge _).setCell hge _),HR5.out.keep45 HD5.out.b6 hs4.2,HD5.out.kp.of_keep hs4.2 (.inr (by omega))⟩
set_option maxHeartbeats 3200000 in
set_option maxRecDepth 100000 in
theorem do10_calls {room0 tmo0:Int} (t:PT w W g room0 tmo0 m bs) (r:RT w W VL VB l lb) (hl:l.length < 1000000) (hlb:lb.length < 1000000) (hnd:(l.map (·.f0)).Nodup) {mT:PM} {l':List Rf} (hM:m.map (Option.map roll1)=mT) (hl':l.map rollR=l') :
  Calls Try.prog 20 #[.pointer (some ⟨g,0,none⟩),.agg #[.int .i64 room,.int .i64 tmo,VL,VB],.agg #[.int .i64 10,.int .i64 node,.int .i64 num,.int .i64 x,.int .i64 y,.string s,.bool on]] W fun e W2=>∃ V2 V3,e=.returned (.tuple #[.agg #[.int .i64 room,.int .i64 tmo,V2,V3],.bool (true)])∧PT w W2 g room0 tmo0 mT bs∧RT w W2 V2 V3 l' lb∧Kept W W2 (TyS W):=by
 obtain ⟨A1,c1,rfl⟩:=r.sl
 obtain ⟨A2,c2,rfl⟩:=r.sb
 have HT:=Aside0.mk (t.below (below3 W (.cells #[.int .i64 room,.int .i64 tmo,.slice A1 l.length c1,.slice A2 lb.length c2] 45) (.cells #[.int .i64 10,.int .i64 node,.int .i64 num,.int .i64 x,.int .i64 y,.string s,.bool on] 42) (.cells #[.int .i64 0,.int .i64 0,.slice none 0 0,.slice none 0 0] 45)))
 have HR:=Aside0.mk (r.below (below3 W (.cells #[.int .i64 room,.int .i64 tmo,.slice A1 l.length c1,.slice A2 lb.length c2] 45) (.cells #[.int .i64 10,.int .i64 node,.int .i64 num,.int .i64 x,.int .i64 y,.string s,.bool on] 42) (.cells #[.int .i64 0,.int .i64 0,.slice none 0 0,.slice none 0 0] 45)))
 have HD:=Aside0.mk (DLoc.start W room tmo (.slice A1 l.length c1) (.slice A2 lb.length c2) 10 node num x y s on)
 have HWS:=Aside0.mk (show w.heap.size≤W.heap.size from t.bel.size)
 have HLL:=Aside0.mk (And.intro hl hlb)
 have HLR:=Aside0.mk hl'
 have HM:=Aside0.mk hM
 have HND:=Aside0.mk hnd
 clear t r hl hlb hl' hM hnd
 go_enter Try.func20,Try.ntmps20
 go_wp2_with fail
 refine HT.out.Roll_any.mono ?_
 rintro e w2 ⟨rfl,d⟩
 rw [HM.out] at d
 have HT2:=Aside0.mk d.pt
 have HR2:=Aside0.mk (HR.out.foot d.kept)
 have HD2:=Aside0.mk (HD.out.foot d.kept)
 clear d HT HR HD
 have k0:=(show w2.cell? ⟨W.heap.size,0,none⟩=some (.int .i64 room) from blk_cell HD2.out.b4 0)
 have k1:=(show w2.cell? ⟨W.heap.size,1,none⟩=some (.int .i64 tmo) from blk_cell HD2.out.b4 1)
 have k2:=(show w2.cell? ⟨W.heap.size,2,none⟩=some (.slice A1 l.length c1) from blk_cell HD2.out.b4 2)
 have k3:=(show w2.cell? ⟨W.heap.size,3,none⟩=some (.slice A2 lb.length c2) from blk_cell HD2.out.b4 3)
 go_wp2_with fail
 refine (ref_roll HR2.out HT2.out.bel room tmo HLL.out.1 HND.out).mono ?_
 rintro e w5 ⟨V2,V3,rfl,rd⟩
 rw [HLR.out] at rd
 obtain ⟨A3,c3,rfl⟩:=rd.rt.sl
 obtain ⟨A4,c4,rfl⟩:=rd.rt.sb
 have HT5:=Aside0.mk (HT2.out.refd rd.kept rd.bel)
 have HR5:=Aside0.mk rd.rt
 have HD5:=Aside0.mk (HD2.out.ref rd.kept)
 clear rd HT2 HR2 HD2 k0 k1 k2 k3
 have s0:=(show w5.cell? ⟨W.heap.size+1+1,0,none⟩=some (.int .i64 0) from blk_cell HD5.out.b6 0)
 have z0:=(show w5.frozen? ⟨W.heap.size+1+1,0,none⟩=false from blk_frozen HD5.out.b6 0)
 have s1:=(show w5.cell? ⟨W.heap.size+1+1,1,none⟩=some (.int .i64 0) from blk_cell HD5.out.b6 1)
 have z1:=(show w5.frozen? ⟨W.heap.size+1+1,1,none⟩=false from blk_frozen HD5.out.b6 1)
 have s2:=(show w5.cell? ⟨W.heap.size+1+1,2,none⟩=some (.slice none 0 0) from blk_cell HD5.out.b6 2)
 have z2:=(show w5.frozen? ⟨W.heap.size+1+1,2,none⟩=false from blk_frozen HD5.out.b6 2)
 have s3:=(show w5.cell? ⟨W.heap.size+1+1,3,none⟩=some (.slice none 0 0) from blk_cell HD5.out.b6 3)
 have z3:=(show w5.frozen? ⟨W.heap.size+1+1,3,none⟩=false from blk_frozen HD5.out.b6 3)
 go_wp2_with fail
 all_goals
  skip
  have hs4:=set4 (b:=W.heap.size+1+1) HD5.out.b6 (.int .i64 room) (.int .i64 tmo) (.slice A3 l'.length c3) (.slice A4 lb.length c4)
  refine bodyPost_ret (v:=.tuple #[.agg #[.int .i64 room,.int .i64 tmo,.slice A3 l'.length c3,.slice A4 lb.length c4],.bool (true)]) (results_list (rs:=[.cell 6 45,.tmp 7]) rfl (by simp) (.cell (W.heap.size+2) 45 _ (0,0) _ rfl hs4.1 Try.underlying45 rfl info45z (.tmp .nil))) rfl ?_
  have hge:w.heap.size≤W.heap.size+2:=Nat.le_trans HWS.out (Nat.le_add_right _ _)
  exact ⟨_,_,rfl,HT5.out.keepB HD5.out.b6 (by decide) (by decide) hs4.2 ((((HT5.out.bel.setCell hge _).setCell hge _).setCell hge _).setCell hge _),HR5.out.keep45 HD5.out.b6 hs4.2,HD5.out.kp.of_keep hs4.2 (.inr (by omega))⟩
set_option maxHeartbeats 3200000 in
set_option maxRecDepth 100000 in
theorem doN_calls {room0 tmo0:Int} (t:PT w W g room0 tmo0 m bs) (r:RT w W VL VB l lb) (hl:l.length < 1000000) (hlb:lb.length < 1000000) (h0:¬ kind=0) (h1:¬ kind=1) (h2:¬ kind=2) (h3:¬ kind=3) (h4:¬ kind=4) (h5:¬ kind=5) (h6:¬ kind=6) (h7:¬ kind=7) (h8:¬ kind=8) (h9:¬ kind=9) (h10:¬ kind=10) :
  Calls Try.prog 20 #[.pointer (some ⟨g,0,none⟩),.agg #[.int .i64 room,.int .i64 tmo,VL,VB],.agg #[.int .i64 kind,.int .i64 node,.int .i64 num,.int .i64 x,.int .i64 y,.string s,.bool on]] W fun e W2=>∃ V2 V3,e=.returned (.tuple #[.agg #[.int .i64 room,.int .i64 tmo,V2,V3],.bool (true)])∧PT w W2 g room0 tmo0 m bs∧RT w W2 V2 V3 l lb∧Kept W W2 (TyS W):=by
 obtain ⟨A1,c1,rfl⟩:=r.sl
 obtain ⟨A2,c2,rfl⟩:=r.sb
 have HT:=Aside0.mk (t.below (below3 W (.cells #[.int .i64 room,.int .i64 tmo,.slice A1 l.length c1,.slice A2 lb.length c2] 45) (.cells #[.int .i64 kind,.int .i64 node,.int .i64 num,.int .i64 x,.int .i64 y,.string s,.bool on] 42) (.cells #[.int .i64 0,.int .i64 0,.slice none 0 0,.slice none 0 0] 45)))
 have HR:=Aside0.mk (r.below (below3 W (.cells #[.int .i64 room,.int .i64 tmo,.slice A1 l.length c1,.slice A2 lb.length c2] 45) (.cells #[.int .i64 kind,.int .i64 node,.int .i64 num,.int .i64 x,.int .i64 y,.string s,.bool on] 42) (.cells #[.int .i64 0,.int .i64 0,.slice none 0 0,.slice none 0 0] 45)))
 have HD:=Aside0.mk (DLoc.start W room tmo (.slice A1 l.length c1) (.slice A2 lb.length c2) kind node num x y s on)
 have HWS:=Aside0.mk (show w.heap.size≤W.heap.size from t.bel.size)
 have HLL:=Aside0.mk (And.intro hl hlb)
 have HT0:=Aside0.mk t
 have HR0:=Aside0.mk r
 clear t r hl hlb 
 go_enter Try.func20,Try.ntmps20
 go_wp2_with fail
 refine bodyPost_ret (v:=.tuple #[.agg #[.int .i64 room,.int .i64 tmo,.slice A1 l.length c1,.slice A2 lb.length c2],.bool true]) (results_list (rs:=[.cell 6 45,.tmp 7]) rfl (by simp) (.cell (W.heap.size+2) 45 _ (0,0) _ rfl (new3 _ _ _ _) Try.underlying45 rfl info45z (.tmp .nil))) rfl ?_
 exact ⟨_,_,rfl,HT0.out.below (below3 _ _ _ _),HR0.out.below (below3 _ _ _ _),Kept.of_below (below3 _ _ _ _) _⟩
set_option maxHeartbeats 3200000 in
set_option maxRecDepth 100000 in
theorem do1_calls {room0 tmo0:Int} (t:PT w W g room0 tmo0 m bs) (r:RT w W VL VB l lb) (hl:l.length < 1000000) (hlb:lb.length < 1000000) {cT cR:Int} {mT:PM} {l':List Rf} (hC:(if tickB num=true then withC m node else 1)=cT) (hcR:(setR l node (!decide (0≤num∧num≤1099511627776)) (fun q=>if q.f6 < num then { q with f6:=num } else q)).2=cR) (hM:(if tickB num=true then setM m node (fun p=>{ p with f6:=mx p.f6 num }) else m)=mT) (hl':(setR l node (!decide (0≤num∧num≤1099511627776)) (fun q=>if q.f6 < num then { q with f6:=num } else q)).1=l') :
  Calls Try.prog 20 #[.pointer (some ⟨g,0,none⟩),.agg #[.int .i64 room,.int .i64 tmo,VL,VB],.agg #[.int .i64 1,.int .i64 node,.int .i64 num,.int .i64 x,.int .i64 y,.string s,.bool on]] W fun e W2=>∃ V2 V3,e=.returned (.tuple #[.agg #[.int .i64 room,.int .i64 tmo,V2,V3],.bool (decide (cT=cR))])∧PT w W2 g room0 tmo0 mT bs∧RT w W2 V2 V3 l' lb∧Kept W W2 (TyS W):=by
 have HCALL:=Aside0.mk (show ∀ (W':World),Below W.heap.size W W'→Calls Try.prog 58 #[.pointer (some ⟨g,0,none⟩),.agg #[.int .i64 room,.int .i64 tmo,VL,VB],.agg #[.int .i64 1,.int .i64 node,.int .i64 num,.int .i64 x,.int .i64 y,.string s,.bool on]] W' fun e W2=>∃ V2 V3,e=.returned (.tuple #[.agg #[.int .i64 room,.int .i64 tmo,V2,V3],.bool (decide (cT=cR))])∧PT w W2 g room0 tmo0 mT bs∧RT w W2 V2 V3 l' lb∧Kept W' W2 (TyS W') from fun W' h=>set1_calls (t.below h) (r.below h) hl hC hcR hM hl')
 obtain ⟨A1,c1,rfl⟩:=r.sl
 obtain ⟨A2,c2,rfl⟩:=r.sb
 have HT:=Aside0.mk (t.below (below3 W (.cells #[.int .i64 room,.int .i64 tmo,.slice A1 l.length c1,.slice A2 lb.length c2] 45) (.cells #[.int .i64 1,.int .i64 node,.int .i64 num,.int .i64 x,.int .i64 y,.string s,.bool on] 42) (.cells #[.int .i64 0,.int .i64 0,.slice none 0 0,.slice none 0 0] 45)))
 have HR:=Aside0.mk (r.below (below3 W (.cells #[.int .i64 room,.int .i64 tmo,.slice A1 l.length c1,.slice A2 lb.length c2] 45) (.cells #[.int .i64 1,.int .i64 node,.int .i64 num,.int .i64 x,.int .i64 y,.string s,.bool on] 42) (.cells #[.int .i64 0,.int .i64 0,.slice none 0 0,.slice none 0 0] 45)))
 have HD:=Aside0.mk (DLoc.start W room tmo (.slice A1 l.length c1) (.slice A2 lb.length c2) 1 node num x y s on)
 have HWS:=Aside0.mk (show w.heap.size≤W.heap.size from t.bel.size)
 have HLL:=Aside0.mk (And.intro hl hlb)
 clear t r hl hlb hC hcR hM hl'
 go_enter Try.func20,Try.ntmps20
 go_wp2_with fail
 refine (HCALL.out _ (below3 _ _ _ _)).mono ?_
 rintro e w5 ⟨V2,V3,rfl,hT,hR,hK⟩
 obtain ⟨A3,c3,rfl⟩:=hR.sl
 obtain ⟨A4,c4,rfl⟩:=hR.sb
 have HT5:=Aside0.mk hT
 have HR5:=Aside0.mk hR
 have HD5:=Aside0.mk (HD.out.tys hK)
 clear hT hR hK HT HR HD HCALL
 have s0:=(show w5.cell? ⟨W.heap.size+1+1,0,none⟩=some (.int .i64 0) from blk_cell HD5.out.b6 0)
 have z0:=(show w5.frozen? ⟨W.heap.size+1+1,0,none⟩=false from blk_frozen HD5.out.b6 0)
 have s1:=(show w5.cell? ⟨W.heap.size+1+1,1,none⟩=some (.int .i64 0) from blk_cell HD5.out.b6 1)
 have z1:=(show w5.frozen? ⟨W.heap.size+1+1,1,none⟩=false from blk_frozen HD5.out.b6 1)
 have s2:=(show w5.cell? ⟨W.heap.size+1+1,2,none⟩=some (.slice none 0 0) from blk_cell HD5.out.b6 2)
 have z2:=(show w5.frozen? ⟨W.heap.size+1+1,2,none⟩=false from blk_frozen HD5.out.b6 2)
 have s3:=(show w5.cell? ⟨W.heap.size+1+1,3,none⟩=some (.slice none 0 0) from blk_cell HD5.out.b6 3)
 have z3:=(show w5.frozen? ⟨W.heap.size+1+1,3,none⟩=false from blk_frozen HD5.out.b6 3)
 generalize hok:decide (cT=cR)=ok
 have HOK:=Aside0.mk hok
 clear hok
 go_wp2_with fail
 all_goals
  skip
  have hs4:=set4 (b:=W.heap.size+1+1) HD5.out.b6 (.int .i64 room) (.int .i64 tmo) (.slice A3 l'.length c3) (.slice A4 lb.length c4)
  refine bodyPost_ret (v:=.tuple #[.agg #[.int .i64 room,.int .i64 tmo,.slice A3 l'.length c3,.slice A4 lb.length c4],.bool (ok)]) (results_list (rs:=[.cell 6 45,.tmp 7]) rfl (by simp) (.cell (W.heap.size+2) 45 _ (0,0) _ rfl hs4.1 Try.underlying45 rfl info45z (.tmp .nil))) rfl ?_
  have hge:w.heap.size≤W.heap.size+2:=Nat.le_trans HWS.out (Nat.le_add_right _ _)
  exact ⟨_,_,by rw [HOK.out],HT5.out.keepB HD5.out.b6 (by decide) (by decide) hs4.2 ((((HT5.out.bel.setCell hge _).setCell hge _).setCell hge _).setCell hge _),HR5.out.keep45 HD5.out.b6 hs4.2,HD5.out.kp.of_keep hs4.2 (.inr (by omega))⟩
set_option maxHeartbeats 3200000 in
set_option maxRecDepth 100000 in
theorem do5_calls {room0 tmo0:Int} (t:PT w W g room0 tmo0 m bs) (r:RT w W VL VB l lb) (hl:l.length < 1000000) (hlb:lb.length < 1000000) {cT cR:Int} {mT:PM} {l':List Rf} (hC:(if (s.size:Int)≤20 then withC m node else 1)=cT) (hcR:(setR l node (decide (20 < (s.size:Int))) (fun q=>{ q with f2:=s })).2=cR) (hM:(if (s.size:Int)≤20 then setM m node (fun p=>{ p with f2:=s }) else m)=mT) (hl':(setR l node (decide (20 < (s.size:Int))) (fun q=>{ q with f2:=s })).1=l') :
  Calls Try.prog 20 #[.pointer (some ⟨g,0,none⟩),.agg #[.int .i64 room,.int .i64 tmo,VL,VB],.agg #[.int .i64 5,.int .i64 node,.int .i64 num,.int .i64 x,.int .i64 y,.string s,.bool on]] W fun e W2=>∃ V2 V3,e=.returned (.tuple #[.agg #[.int .i64 room,.int .i64 tmo,V2,V3],.bool (decide (cT=cR))])∧PT w W2 g room0 tmo0 mT bs∧RT w W2 V2 V3 l' lb∧Kept W W2 (TyS W):=by
 have HCALL:=Aside0.mk (show ∀ (W':World),Below W.heap.size W W'→Calls Try.prog 58 #[.pointer (some ⟨g,0,none⟩),.agg #[.int .i64 room,.int .i64 tmo,VL,VB],.agg #[.int .i64 5,.int .i64 node,.int .i64 num,.int .i64 x,.int .i64 y,.string s,.bool on]] W' fun e W2=>∃ V2 V3,e=.returned (.tuple #[.agg #[.int .i64 room,.int .i64 tmo,V2,V3],.bool (decide (cT=cR))])∧PT w W2 g room0 tmo0 mT bs∧RT w W2 V2 V3 l' lb∧Kept W' W2 (TyS W') from fun W' h=>set5_calls (t.below h) (r.below h) hl hC hcR hM hl')
 obtain ⟨A1,c1,rfl⟩:=r.sl
 obtain ⟨A2,c2,rfl⟩:=r.sb
 have HT:=Aside0.mk (t.below (below3 W (.cells #[.int .i64 room,.int .i64 tmo,.slice A1 l.length c1,.slice A2 lb.length c2] 45) (.cells #[.int .i64 5,.int .i64 node,.int .i64 num,.int .i64 x,.int .i64 y,.string s,.bool on] 42) (.cells #[.int .i64 0,.int .i64 0,.slice none 0 0,.slice none 0 0] 45)))
 have HR:=Aside0.mk (r.below (below3 W (.cells #[.int .i64 room,.int .i64 tmo,.slice A1 l.length c1,.slice A2 lb.length c2] 45) (.cells #[.int .i64 5,.int .i64 node,.int .i64 num,.int .i64 x,.int .i64 y,.string s,.bool on] 42) (.cells #[.int .i64 0,.int .i64 0,.slice none 0 0,.slice none 0 0] 45)))
 have HD:=Aside0.mk (DLoc.start W room tmo (.slice A1 l.length c1) (.slice A2 lb.length c2) 5 node num x y s on)
 have HWS:=Aside0.mk (show w.heap.size≤W.heap.size from t.bel.size)
 have HLL:=Aside0.mk (And.intro hl hlb)
 clear t r hl hlb hC hcR hM hl'
 go_enter Try.func20,Try.ntmps20
 go_wp2_with fail
 refine (HCALL.out _ (below3 _ _ _ _)).mono ?_
 rintro e w5 ⟨V2,V3,rfl,hT,hR,hK⟩
 obtain ⟨A3,c3,rfl⟩:=hR.sl
 obtain ⟨A4,c4,rfl⟩:=hR.sb
 have HT5:=Aside0.mk hT
 have HR5:=Aside0.mk hR
 have HD5:=Aside0.mk (HD.out.tys hK)
 clear hT hR hK HT HR HD HCALL
 have s0:=(show w5.cell? ⟨W.heap.size+1+1,0,none⟩=some (.int .i64 0) from blk_cell HD5.out.b6 0)
 have z0:=(show w5.frozen? ⟨W.heap.size+1+1,0,none⟩=false from blk_frozen HD5.out.b6 0)
 have s1:=(show w5.cell? ⟨W.heap.size+1+1,1,none⟩=some (.int .i64 0) from blk_cell HD5.out.b6 1)
 have z1:=(show w5.frozen? ⟨W.heap.size+1+1,1,none⟩=false from blk_frozen HD5.out.b6 1)
 have s2:=(show w5.cell? ⟨W.heap.size+1+1,2,none⟩=some (.slice none 0 0) from blk_cell HD5.out.b6 2)
 have z2:=(show w5.frozen? ⟨W.heap.size+1+1,2,none⟩=false from blk_frozen HD5.out.b6 2)
 have s3:=(show w5.cell? ⟨W.heap.size+1+1,3,none⟩=some (.slice none 0 0) from blk_cell HD5.out.b6 3)
 have z3:=(show w5.frozen? ⟨W.heap.size+1+1,3,none⟩=false from blk_frozen HD5.out.b6 3)
 generalize hok:decide (cT=cR)=ok
 have HOK:=Aside0.mk hok
 clear hok
 go_wp2_with fail
 all_goals
  skip
  have hs4:=set4 (b:=W.heap.size+1+1) HD5.out.b6 (.int .i64 room) (.int .i64 tmo) (.slice A3 l'.length c3) (.slice A4 lb.length c4)
  refine bodyPost_ret (v:=.tuple #[.agg #[.int .i64 room,.int .i64 tmo,.slice A3 l'.length c3,.slice A4 lb.length c4],.bool (ok)]) (results_list (rs:=[.cell 6 45,.tmp 7]) rfl (by simp) (.cell (W.heap.size+2) 45 _ (0,0) _ rfl hs4.1 Try.underlying45 rfl info45z (.tmp .nil))) rfl ?_
  have hge:w.heap.size≤W.heap.size+2:=Nat.le_trans HWS.out (Nat.le_add_right _ _)
  exact ⟨_,_,by rw [HOK.out],HT5.out.keepB HD5.out.b6 (by decide) (by decide) hs4.2 ((((HT5.out.bel.setCell hge _).setCell hge _).setCell hge _).setCell hge _),HR5.out.keep45 HD5.out.b6 hs4.2,HD5.out.kp.of_keep hs4.2 (.inr (by omega))⟩
set_option maxHeartbeats 3200000 in
set_option maxRecDepth 100000 in
theorem do6_calls {room0 tmo0:Int} (t:PT w W g room0 tmo0 m bs) (r:RT w W VL VB l lb) (hl:l.length < 1000000) (hlb:lb.length < 1000000) (v:Int) (hv:v=(if on=true then 1 else 0)) {cT cR:Int} {mT:PM} {l':List Rf} (hC:(withC m node)=cT) (hcR:(setR l node false (fun q=>{ q with f3:=v == (1:Int) })).2=cR) (hM:(setM m node (fun p=>{ p with f3:=on }))=mT) (hl':(setR l node false (fun q=>{ q with f3:=v == (1:Int) })).1=l') :
  Calls Try.prog 20 #[.pointer (some ⟨g,0,none⟩),.agg #[.int .i64 room,.int .i64 tmo,VL,VB],.agg #[.int .i64 6,.int .i64 node,.int .i64 num,.int .i64 x,.int .i64 y,.string s,.bool on]] W fun e W2=>∃ V2 V3,e=.returned (.tuple #[.agg #[.int .i64 room,.int .i64 tmo,V2,V3],.bool (decide (cT=cR))])∧PT w W2 g room0 tmo0 mT bs∧RT w W2 V2 V3 l' lb∧Kept W W2 (TyS W):=by
 have HCALL:=Aside0.mk (show ∀ (W':World),Below W.heap.size W W'→Calls Try.prog 58 #[.pointer (some ⟨g,0,none⟩),.agg #[.int .i64 room,.int .i64 tmo,VL,VB],.agg #[.int .i64 6,.int .i64 node,.int .i64 num,.int .i64 x,.int .i64 y,.string s,.bool on]] W' fun e W2=>∃ V2 V3,e=.returned (.tuple #[.agg #[.int .i64 room,.int .i64 tmo,V2,V3],.bool (decide (cT=cR))])∧PT w W2 g room0 tmo0 mT bs∧RT w W2 V2 V3 l' lb∧Kept W' W2 (TyS W') from fun W' h=>set6_calls (t.below h) (r.below h) hl v hv hC hcR hM hl')
 obtain ⟨A1,c1,rfl⟩:=r.sl
 obtain ⟨A2,c2,rfl⟩:=r.sb
 have HT:=Aside0.mk (t.below (below3 W (.cells #[.int .i64 room,.int .i64 tmo,.slice A1 l.length c1,.slice A2 lb.length c2] 45) (.cells #[.int .i64 6,.int .i64 node,.int .i64 num,.int .i64 x,.int .i64 y,.string s,.bool on] 42) (.cells #[.int .i64 0,.int .i64 0,.slice none 0 0,.slice none 0 0] 45)))
 have HR:=Aside0.mk (r.below (below3 W (.cells #[.int .i64 room,.int .i64 tmo,.slice A1 l.length c1,.slice A2 lb.length c2] 45) (.cells #[.int .i64 6,.int .i64 node,.int .i64 num,.int .i64 x,.int .i64 y,.string s,.bool on] 42) (.cells #[.int .i64 0,.int .i64 0,.slice none 0 0,.slice none 0 0] 45)))
 have HD:=Aside0.mk (DLoc.start W room tmo (.slice A1 l.length c1) (.slice A2 lb.length c2) 6 node num x y s on)
 have HWS:=Aside0.mk (show w.heap.size≤W.heap.size from t.bel.size)
 have HLL:=Aside0.mk (And.intro hl hlb)
 clear t r hl hlb hC hcR hM hl' hv
 go_enter Try.func20,Try.ntmps20
 go_wp2_with fail
 refine (HCALL.out _ (below3 _ _ _ _)).mono ?_
 rintro e w5 ⟨V2,V3,rfl,hT,hR,hK⟩
 obtain ⟨A3,c3,rfl⟩:=hR.sl
 obtain ⟨A4,c4,rfl⟩:=hR.sb
 have HT5:=Aside0.mk hT
 have HR5:=Aside0.mk hR
 have HD5:=Aside0.mk (HD.out.tys hK)
 clear hT hR hK HT HR HD HCALL
 have s0:=(show w5.cell? ⟨W.heap.size+1+1,0,none⟩=some (.int .i64 0) from blk_cell HD5.out.b6 0)
 have z0:=(show w5.frozen? ⟨W.heap.size+1+1,0,none⟩=false from blk_frozen HD5.out.b6 0)
 have s1:=(show w5.cell? ⟨W.heap.size+1+1,1,none⟩=some (.int .i64 0) from blk_cell HD5.out.b6 1)
 have z1:=(show w5.frozen? ⟨W.heap.size+1+1,1,none⟩=false from blk_frozen HD5.out.b6 1)
 have s2:=(show w5.cell? ⟨W.heap.size+1+1,2,none⟩=some (.slice none 0 0) from blk_cell HD5.out.b6 2)
 have z2:=(show w5.frozen? ⟨W.heap.size+1+1,2,none⟩=false from blk_frozen HD5.out.b6 2)
 have s3:=(show w5.cell? ⟨W.heap.size+1+1,3,none⟩=some (.slice none 0 0) from blk_cell HD5.out.b6 3)
 have z3:=(show w5.frozen? ⟨W.heap.size+1+1,3,none⟩=false from blk_frozen HD5.out.b6 3)
 generalize hok:decide (cT=cR)=ok
 have HOK:=Aside0.mk hok
 clear hok
 go_wp2_with fail
 all_goals
  skip
  have hs4:=set4 (b:=W.heap.size+1+1) HD5.out.b6 (.int .i64 room) (.int .i64 tmo) (.slice A3 l'.length c3) (.slice A4 lb.length c4)
  refine bodyPost_ret (v:=.tuple #[.agg #[.int .i64 room,.int .i64 tmo,.slice A3 l'.length c3,.slice A4 lb.length c4],.bool (ok)]) (results_list (rs:=[.cell 6 45,.tmp 7]) rfl (by simp) (.cell (W.heap.size+2) 45 _ (0,0) _ rfl hs4.1 Try.underlying45 rfl info45z (.tmp .nil))) rfl ?_
  have hge:w.heap.size≤W.heap.size+2:=Nat.le_trans HWS.out (Nat.le_add_right _ _)
  exact ⟨_,_,by rw [HOK.out],HT5.out.keepB HD5.out.b6 (by decide) (by decide) hs4.2 ((((HT5.out.bel.setCell hge _).setCell hge _).setCell hge _).setCell hge _),HR5.out.keep45 HD5.out.b6 hs4.2,HD5.out.kp.of_keep hs4.2 (.inr (by omega))⟩
set_option maxHeartbeats 3200000 in
set_option maxRecDepth 100000 in
theorem do7_calls {room0 tmo0:Int} (t:PT w W g room0 tmo0 m bs) (r:RT w W VL VB l lb) (hl:l.length < 1000000) (hlb:lb.length < 1000000) (v:Int) (hv:v=(if on=true then 1 else 0)) {cT cR:Int} {mT:PM} {l':List Rf} (hC:(withC m node)=cT) (hcR:(setR l node false (fun q=>{ q with f4:=v == (1:Int) })).2=cR) (hM:(setM m node (fun p=>{ p with f4:=on }))=mT) (hl':(setR l node false (fun q=>{ q with f4:=v == (1:Int) })).1=l') :
  Calls Try.prog 20 #[.pointer (some ⟨g,0,none⟩),.agg #[.int .i64 room,.int .i64 tmo,VL,VB],.agg #[.int .i64 7,.int .i64 node,.int .i64 num,.int .i64 x,.int .i64 y,.string s,.bool on]] W fun e W2=>∃ V2 V3,e=.returned (.tuple #[.agg #[.int .i64 room,.int .i64 tmo,V2,V3],.bool (decide (cT=cR))])∧PT w W2 g room0 tmo0 mT bs∧RT w W2 V2 V3 l' lb∧Kept W W2 (TyS W):=by
 have HCALL:=Aside0.mk (show ∀ (W':World),Below W.heap.size W W'→Calls Try.prog 58 #[.pointer (some ⟨g,0,none⟩),.agg #[.int .i64 room,.int .i64 tmo,VL,VB],.agg #[.int .i64 7,.int .i64 node,.int .i64 num,.int .i64 x,.int .i64 y,.string s,.bool on]] W' fun e W2=>∃ V2 V3,e=.returned (.tuple #[.agg #[.int .i64 room,.int .i64 tmo,V2,V3],.bool (decide (cT=cR))])∧PT w W2 g room0 tmo0 mT bs∧RT w W2 V2 V3 l' lb∧Kept W' W2 (TyS W') from fun W' h=>set7_calls (t.below h) (r.below h) hl v hv hC hcR hM hl')
 obtain ⟨A1,c1,rfl⟩:=r.sl
 obtain ⟨A2,c2,rfl⟩:=r.sb
 have HT:=Aside0.mk (t.below (below3 W (.cells #[.int .i64 room,.int .i64 tmo,.slice A1 l.length c1,.slice A2 lb.length c2] 45) (.cells #[.int .i64 7,.int .i64 node,.int .i64 num,.int .i64 x,.int .i64 y,.string s,.bool on] 42) (.cells #[.int .i64 0,.int .i64 0,.slice none 0 0,.slice none 0 0] 45)))
 have HR:=Aside0.mk (r.below (below3 W (.cells #[.int .i64 room,.int .i64 tmo,.slice A1 l.length c1,.slice A2 lb.length c2] 45) (.cells #[.int .i64 7,.int .i64 node,.int .i64 num,.int .i64 x,.int .i64 y,.string s,.bool on] 42) (.cells #[.int .i64 0,.int .i64 0,.slice none 0 0,.slice none 0 0] 45)))
 have HD:=Aside0.mk (DLoc.start W room tmo (.slice A1 l.length c1) (.slice A2 lb.length c2) 7 node num x y s on)
 have HWS:=Aside0.mk (show w.heap.size≤W.heap.size from t.bel.size)
 have HLL:=Aside0.mk (And.intro hl hlb)
 clear t r hl hlb hC hcR hM hl' hv
 go_enter Try.func20,Try.ntmps20
 go_wp2_with fail
 refine (HCALL.out _ (below3 _ _ _ _)).mono ?_
 rintro e w5 ⟨V2,V3,rfl,hT,hR,hK⟩
 obtain ⟨A3,c3,rfl⟩:=hR.sl
 obtain ⟨A4,c4,rfl⟩:=hR.sb
 have HT5:=Aside0.mk hT
 have HR5:=Aside0.mk hR
 have HD5:=Aside0.mk (HD.out.tys hK)
 clear hT hR hK HT HR HD HCALL
 have s0:=(show w5.cell? ⟨W.heap.size+1+1,0,none⟩=some (.int .i64 0) from blk_cell HD5.out.b6 0)
 have z0:=(show w5.frozen? ⟨W.heap.size+1+1,0,none⟩=false from blk_frozen HD5.out.b6 0)
 have s1:=(show w5.cell? ⟨W.heap.size+1+1,1,none⟩=some (.int .i64 0) from blk_cell HD5.out.b6 1)
 have z1:=(show w5.frozen? ⟨W.heap.size+1+1,1,none⟩=false from blk_frozen HD5.out.b6 1)
 have s2:=(show w5.cell? ⟨W.heap.size+1+1,2,none⟩=some (.slice none 0 0) from blk_cell HD5.out.b6 2)
 have z2:=(show w5.frozen? ⟨W.heap.size+1+1,2,none⟩=false from blk_frozen HD5.out.b6 2)
 have s3:=(show w5.cell? ⟨W.heap.size+1+1,3,none⟩=some (.slice none 0 0) from blk_cell HD5.out.b6 3)
 have z3:=(show w5.frozen? ⟨W.heap.size+1+1,3,none⟩=false from blk_frozen HD5.out.b6 3)
 generalize hok:decide (cT=cR)=ok
 have HOK:=Aside0.mk hok
 clear hok
 go_wp2_with fail
 all_goals
  skip
  have hs4:=set4 (b:=W.heap.size+1+1) HD5.out.b6 (.int .i64 room) (.int .i64 tmo) (.slice A3 l'.length c3) (.slice A4 lb.length c4)
  refine bodyPost_ret (v:=.tuple #[.agg #[.int .i64 room,.int .i64 tmo,.slice A3 l'.length c3,.slice A4 lb.length c4],.bool (ok)]) (results_list (rs:=[.cell 6 45,.tmp 7]) rfl (by simp) (.cell (W.heap.size+2) 45 _ (0,0) _ rfl hs4.1 Try.underlying45 rfl info45z (.tmp .nil))) rfl ?_
  have hge:w.heap.size≤W.heap.size+2:=Nat.le_trans HWS.out (Nat.le_add_right _ _)
  exact ⟨_,_,by rw [HOK.out],HT5.out.keepB HD5.out.b6 (by decide) (by decide) hs4.2 ((((HT5.out.bel.setCell hge _).setCell hge _).setCell hge _).setCell hge _),HR5.out.keep45 HD5.out.b6 hs4.2,HD5.out.kp.of_keep hs4.2 (.inr (by omega))⟩
set_option maxHeartbeats 3200000 in
set_option maxRecDepth 100000 in
theorem do8_calls {room0 tmo0:Int} (t:PT w W g room0 tmo0 m bs) (r:RT w W VL VB l lb) (hl:l.length < 1000000) (hlb:lb.length < 1000000) (v:Int) (hv:v=(if on=true then 1 else 0)) {cT cR:Int} {mT:PM} {l':List Rf} (hC:(withC m node)=cT) (hcR:(setR l node false (fun q=>{ q with f5:=v == (1:Int) })).2=cR) (hM:(setM m node (fun p=>{ p with f5:=on }))=mT) (hl':(setR l node false (fun q=>{ q with f5:=v == (1:Int) })).1=l') :
  Calls Try.prog 20 #[.pointer (some ⟨g,0,none⟩),.agg #[.int .i64 room,.int .i64 tmo,VL,VB],.agg #[.int .i64 8,.int .i64 node,.int .i64 num,.int .i64 x,.int .i64 y,.string s,.bool on]] W fun e W2=>∃ V2 V3,e=.returned (.tuple #[.agg #[.int .i64 room,.int .i64 tmo,V2,V3],.bool (decide (cT=cR))])∧PT w W2 g room0 tmo0 mT bs∧RT w W2 V2 V3 l' lb∧Kept W W2 (TyS W):=by
 have HCALL:=Aside0.mk (show ∀ (W':World),Below W.heap.size W W'→Calls Try.prog 58 #[.pointer (some ⟨g,0,none⟩),.agg #[.int .i64 room,.int .i64 tmo,VL,VB],.agg #[.int .i64 8,.int .i64 node,.int .i64 num,.int .i64 x,.int .i64 y,.string s,.bool on]] W' fun e W2=>∃ V2 V3,e=.returned (.tuple #[.agg #[.int .i64 room,.int .i64 tmo,V2,V3],.bool (decide (cT=cR))])∧PT w W2 g room0 tmo0 mT bs∧RT w W2 V2 V3 l' lb∧Kept W' W2 (TyS W') from fun W' h=>set8_calls (t.below h) (r.below h) hl v hv hC hcR hM hl')
 obtain ⟨A1,c1,rfl⟩:=r.sl
 obtain ⟨A2,c2,rfl⟩:=r.sb
 have HT:=Aside0.mk (t.below (below3 W (.cells #[.int .i64 room,.int .i64 tmo,.slice A1 l.length c1,.slice A2 lb.length c2] 45) (.cells #[.int .i64 8,.int .i64 node,.int .i64 num,.int .i64 x,.int .i64 y,.string s,.bool on] 42) (.cells #[.int .i64 0,.int .i64 0,.slice none 0 0,.slice none 0 0] 45)))
 have HR:=Aside0.mk (r.below (below3 W (.cells #[.int .i64 room,.int .i64 tmo,.slice A1 l.length c1,.slice A2 lb.length c2] 45) (.cells #[.int .i64 8,.int .i64 node,.int .i64 num,.int .i64 x,.int .i64 y,.string s,.bool on] 42) (.cells #[.int .i64 0,.int .i64 0,.slice none 0 0,.slice none 0 0] 45)))
 have HD:=Aside0.mk (DLoc.start W room tmo (.slice A1 l.length c1) (.slice A2 lb.length c2) 8 node num x y s on)
 have HWS:=Aside0.mk (show w.heap.size≤W.heap.size from t.bel.size)
 have HLL:=Aside0.mk (And.intro hl hlb)
 clear t r hl hlb hC hcR hM hl' hv
 go_enter Try.func20,Try.ntmps20
 go_wp2_with fail
 refine (HCALL.out _ (below3 _ _ _ _)).mono ?_
 rintro e w5 ⟨V2,V3,rfl,hT,hR,hK⟩
 obtain ⟨A3,c3,rfl⟩:=hR.sl
 obtain ⟨A4,c4,rfl⟩:=hR.sb
 have HT5:=Aside0.mk hT
 have HR5:=Aside0.mk hR
 have HD5:=Aside0.mk (HD.out.tys hK)
 clear hT hR hK HT HR HD HCALL
 have s0:=(show w5.cell? ⟨W.heap.size+1+1,0,none⟩=some (.int .i64 0) from blk_cell HD5.out.b6 0)
 have z0:=(show w5.frozen? ⟨W.heap.size+1+1,0,none⟩=false from blk_frozen HD5.out.b6 0)
 have s1:=(show w5.cell? ⟨W.heap.size+1+1,1,none⟩=some (.int .i64 0) from blk_cell HD5.out.b6 1)
 have z1:=(show w5.frozen? ⟨W.heap.size+1+1,1,none⟩=false from blk_frozen HD5.out.b6 1)
 have s2:=(show w5.cell? ⟨W.heap.size+1+1,2,none⟩=some (.slice none 0 0) from blk_cell HD5.out.b6 2)
 have z2:=(show w5.frozen? ⟨W.heap.size+1+1,2,none⟩=false from blk_frozen HD5.out.b6 2)
 have s3:=(show w5.cell? ⟨W.heap.size+1+1,3,none⟩=some (.slice none 0 0) from blk_cell HD5.out.b6 3)
 have z3:=(show w5.frozen? ⟨W.heap.size+1+1,3,none⟩=false from blk_frozen HD5.out.b6 3)
 generalize hok:decide (cT=cR)=ok
 have HOK:=Aside0.mk hok
 clear hok
 go_wp2_with fail
 all_goals
  skip
  have hs4:=set4 (b:=W.heap.size+1+1) HD5.out.b6 (.int .i64 room) (.int .i64 tmo) (.slice A3 l'.length c3) (.slice A4 lb.length c4)
  refine bodyPost_ret (v:=.tuple #[.agg #[.int .i64 room,.int .i64 tmo,.slice A3 l'.length c3,.slice A4 lb.length c4],.bool (ok)]) (results_list (rs:=[.cell 6 45,.tmp 7]) rfl (by simp) (.cell (W.heap.size+2) 45 _ (0,0) _ rfl hs4.1 Try.underlying45 rfl info45z (.tmp .nil))) rfl ?_
  have hge:w.heap.size≤W.heap.size+2:=Nat.le_trans HWS.out (Nat.le_add_right _ _)
  exact ⟨_,_,by rw [HOK.out],HT5.out.keepB HD5.out.b6 (by decide) (by decide) hs4.2 ((((HT5.out.bel.setCell hge _).setCell hge _).setCell hge _).setCell hge _),HR5.out.keep45 HD5.out.b6 hs4.2,HD5.out.kp.of_keep hs4.2 (.inr (by omega))⟩
set_option maxHeartbeats 3200000 in
set_option maxRecDepth 100000 in
theorem do9_calls {room0 tmo0:Int} (t:PT w W g room0 tmo0 m bs) (r:RT w W VL VB l lb) (hl:l.length < 1000000) (hlb:lb.length < 1000000) {cT cR:Int} {mT:PM} {l':List Rf} (hC:(if tickB num=true then withC m node else 1)=cT) (hcR:(setR l node (!decide (0≤num∧num≤1099511627776)) (fun q=>{ q with f7:=if 1099511627776 < q.f7+num then 1099511627776 else q.f7+num })).2=cR) (hM:(if tickB num=true then setM m node (fun p=>{ p with f7:=mn (p.f7+num) 1099511627776 }) else m)=mT) (hl':(setR l node (!decide (0≤num∧num≤1099511627776)) (fun q=>{ q with f7:=if 1099511627776 < q.f7+num then 1099511627776 else q.f7+num })).1=l') (hq:∀ q∈l,0≤q.f7∧q.f7≤1099511627776) :
  Calls Try.prog 20 #[.pointer (some ⟨g,0,none⟩),.agg #[.int .i64 room,.int .i64 tmo,VL,VB],.agg #[.int .i64 9,.int .i64 node,.int .i64 num,.int .i64 x,.int .i64 y,.string s,.bool on]] W fun e W2=>∃ V2 V3,e=.returned (.tuple #[.agg #[.int .i64 room,.int .i64 tmo,V2,V3],.bool (decide (cT=cR))])∧PT w W2 g room0 tmo0 mT bs∧RT w W2 V2 V3 l' lb∧Kept W W2 (TyS W):=by
 have HCALL:=Aside0.mk (show ∀ (W':World),Below W.heap.size W W'→Calls Try.prog 58 #[.pointer (some ⟨g,0,none⟩),.agg #[.int .i64 room,.int .i64 tmo,VL,VB],.agg #[.int .i64 9,.int .i64 node,.int .i64 num,.int .i64 x,.int .i64 y,.string s,.bool on]] W' fun e W2=>∃ V2 V3,e=.returned (.tuple #[.agg #[.int .i64 room,.int .i64 tmo,V2,V3],.bool (decide (cT=cR))])∧PT w W2 g room0 tmo0 mT bs∧RT w W2 V2 V3 l' lb∧Kept W' W2 (TyS W') from fun W' h=>set9_calls (t.below h) (r.below h) hl hC hcR hM hl' hq)
 obtain ⟨A1,c1,rfl⟩:=r.sl
 obtain ⟨A2,c2,rfl⟩:=r.sb
 have HT:=Aside0.mk (t.below (below3 W (.cells #[.int .i64 room,.int .i64 tmo,.slice A1 l.length c1,.slice A2 lb.length c2] 45) (.cells #[.int .i64 9,.int .i64 node,.int .i64 num,.int .i64 x,.int .i64 y,.string s,.bool on] 42) (.cells #[.int .i64 0,.int .i64 0,.slice none 0 0,.slice none 0 0] 45)))
 have HR:=Aside0.mk (r.below (below3 W (.cells #[.int .i64 room,.int .i64 tmo,.slice A1 l.length c1,.slice A2 lb.length c2] 45) (.cells #[.int .i64 9,.int .i64 node,.int .i64 num,.int .i64 x,.int .i64 y,.string s,.bool on] 42) (.cells #[.int .i64 0,.int .i64 0,.slice none 0 0,.slice none 0 0] 45)))
 have HD:=Aside0.mk (DLoc.start W room tmo (.slice A1 l.length c1) (.slice A2 lb.length c2) 9 node num x y s on)
 have HWS:=Aside0.mk (show w.heap.size≤W.heap.size from t.bel.size)
 have HLL:=Aside0.mk (And.intro hl hlb)
 clear t r hl hlb hC hcR hM hl' hq
 go_enter Try.func20,Try.ntmps20
 go_wp2_with fail
 refine (HCALL.out _ (below3 _ _ _ _)).mono ?_
 rintro e w5 ⟨V2,V3,rfl,hT,hR,hK⟩
 obtain ⟨A3,c3,rfl⟩:=hR.sl
 obtain ⟨A4,c4,rfl⟩:=hR.sb
 have HT5:=Aside0.mk hT
 have HR5:=Aside0.mk hR
 have HD5:=Aside0.mk (HD.out.tys hK)
 clear hT hR hK HT HR HD HCALL
 have s0:=(show w5.cell? ⟨W.heap.size+1+1,0,none⟩=some (.int .i64 0) from blk_cell HD5.out.b6 0)
 have z0:=(show w5.frozen? ⟨W.heap.size+1+1,0,none⟩=false from blk_frozen HD5.out.b6 0)
 have s1:=(show w5.cell? ⟨W.heap.size+1+1,1,none⟩=some (.int .i64 0) from blk_cell HD5.out.b6 1)
 have z1:=(show w5.frozen? ⟨W.heap.size+1+1,1,none⟩=false from blk_frozen HD5.out.b6 1)
 have s2:=(show w5.cell? ⟨W.heap.size+1+1,2,none⟩=some (.slice none 0 0) from blk_cell HD5.out.b6 2)
 have z2:=(show w5.frozen? ⟨W.heap.size+1+1,2,none⟩=false from blk_frozen HD5.out.b6 2)
 have s3:=(show w5.cell? ⟨W.heap.size+1+1,3,none⟩=some (.slice none 0 0) from blk_cell HD5.out.b6 3)
 have z3:=(show w5.frozen? ⟨W.heap.size+1+1,3,none⟩=false from blk_frozen HD5.out.b6 3)
 generalize hok:decide (cT=cR)=ok
 have HOK:=Aside0.mk hok
 clear hok
 go_wp2_with fail
 all_goals
  skip
  have hs4:=set4 (b:=W.heap.size+1+1) HD5.out.b6 (.int .i64 room) (.int .i64 tmo) (.slice A3 l'.length c3) (.slice A4 lb.length c4)
  refine bodyPost_ret (v:=.tuple #[.agg #[.int .i64 room,.int .i64 tmo,.slice A3 l'.length c3,.slice A4 lb.length c4],.bool (ok)]) (results_list (rs:=[.cell 6 45,.tmp 7]) rfl (by simp) (.cell (W.heap.size+2) 45 _ (0,0) _ rfl hs4.1 Try.underlying45 rfl info45z (.tmp .nil))) rfl ?_
  have hge:w.heap.size≤W.heap.size+2:=Nat.le_trans HWS.out (Nat.le_add_right _ _)
  exact ⟨_,_,by rw [HOK.out],HT5.out.keepB HD5.out.b6 (by decide) (by decide) hs4.2 ((((HT5.out.bel.setCell hge _).setCell hge _).setCell hge _).setCell hge _),HR5.out.keep45 HD5.out.b6 hs4.2,HD5.out.kp.of_keep hs4.2 (.inr (by omega))⟩
end
end Go.Proofs.Ytpejjpecdkbleaa.Print
/-! #### MaPeers18 -/
/- peers: a table and the document's table say the same. -/
namespace Go.Proofs.Ytpejjpecdkbleaa.Print
open Go.RowKit Go.Proofs.YtpejjpecdkbleaaW.PrintWords Go.Proofs.YtpejjpecdkbleaaW.PrintLast Go.Proofs.YtpejjpecdkbleaaW.PrintMore
open Go.Proofs.Ytpejjpecdkbleaa.Pure (withoutL withL findI findI_none findI_some findI_lt insG metR meetR lateR expR setR leaveR rollR rdp)
set_option linter.unusedVariables false
set_option linter.unusedSimpArgs false
def refP (p:Pr):Rf:=⟨p.f0,⟨p.f1.f0,p.f1.f1⟩,p.f2,p.f3,p.f4,p.f5,p.f6,p.f7,p.f8⟩
def listM (m:PM):List Rf:=(m.filterMap id).map refP
theorem listM_nil:listM []=[]:=rfl
theorem listM_none (m:PM):listM (none :: m)=listM m:=rfl
theorem listM_some (p:Pr) (m:PM):listM (some p :: m)=refP p :: listM m:=rfl
theorem listM_mem {m:PM} {x:Rf}:x∈listM m↔∃ (i:Nat) (p:Pr),m[i]?=some (some p)∧refP p=x:=by
 unfold listM
 rw [List.mem_map]
 constructor
 ·
  rintro ⟨p,hp,e⟩
  obtain ⟨y,hy,hyp⟩:=List.mem_filterMap.1 hp
  obtain ⟨i,hi⟩:=List.mem_iff_getElem?.1 hy
  have hyp2:y=some p:=hyp
  exact ⟨i,p,by rw [hi,hyp2],e⟩
 ·
  rintro ⟨i,p,hi,e⟩
  exact ⟨p,List.mem_filterMap.2 ⟨some p,List.mem_of_getElem? hi,rfl⟩,e⟩
/-- Numbers stand at their places, counted from k. -/
def NodeAt (k:Nat) (m:PM):Prop:=∀ (i:Nat) (p:Pr),m[i]?=some (some p)→p.f0=((k+i:Nat):Int)
theorem NodeAt.tail {k:Nat} {x:Option Pr} {m:PM} (h:NodeAt k (x :: m)):NodeAt (k+1) m:=fun i p hi=>by
 rw [h (i+1) p (by simpa using hi)]
 congr 1
 omega
theorem NodeAt.head {k:Nat} {p:Pr} {m:PM} (h:NodeAt k (some p :: m)):p.f0=(k:Int):=h 0 p rfl
theorem NodeAt.ge {k:Nat} {m:PM} (h:NodeAt k m):∀ x∈listM m,(k:Int)≤x.f0:=by
 intro x hx
 obtain ⟨i,p,hi,rfl⟩:=listM_mem.1 hx
 show (k:Int)≤p.f0
 rw [h i p hi]
 omega
theorem listM_sorted:∀ (m:PM) (k:Nat),NodeAt k m→(listM m).Pairwise fun a b=>a.f0 < b.f0
 | [],_,_=>List.Pairwise.nil
 | none :: m,k,h=>listM_sorted m (k+1) h.tail
 | some p :: m,k,h=>by
  rw [listM_some,List.pairwise_cons]
  refine ⟨fun x hx=>?_,listM_sorted m (k+1) h.tail⟩
  have h1:=h.tail.ge x hx
  have h2:(refP p).f0=(k:Int):=h.head
  omega
theorem listM_nodup {m:PM} {k:Nat} (h:NodeAt k m):((listM m).map (·.f0)).Nodup:=by
 rw [List.nodup_iff_pairwise_ne,List.pairwise_map]
 exact (listM_sorted m k h).imp (fun h=>by omega)
theorem InvM.nodeAt {m:PM} {bs:List Bool} (hi:InvM m bs):NodeAt 0 m:=fun i p h=>by
 rw [(hi.node i p h).1,Nat.zero_add]
theorem listM_len (m:PM):(listM m).length=(m.filterMap id).length:=List.length_map _
theorem listM_le (m:PM):(listM m).length≤m.length:=by
 rw [listM_len]
 exact List.length_filterMap_le _ _
theorem withoutL_all {l:List Rf} {n:Int} (h:∀ x∈l,x.f0≠n):withoutL l n=l:=List.filter_eq_self.2 (fun x hx=>decide_eq_true (h x hx))
theorem withL_all {l:List Rf} {x:Rf} (h:∀ y∈l,y.f0≠x.f0):withL l x=l:=by
 unfold withL
 conv=>rhs;rw [← List.map_id l]
 exact List.map_congr_left (fun y hy=>if_neg (h y hy))
theorem insG_head {l:List Rf} {x:Rf} (h:∀ y∈l,x.f0 < y.f0):insG x l=x :: l:=by
 cases l with
 | nil=>rfl
 | cons y t =>
  unfold insG
  rw [if_pos (h y List.mem_cons_self)]
theorem without_set:∀ (m:PM) (k n:Nat),NodeAt k m→withoutL (listM m) ((k+n:Nat):Int)=listM (m.set n none)
 | [],_,_,_=>rfl
 | x :: m,k,0,h=>by
  have hge:∀ y∈listM m,y.f0≠((k+0:Nat):Int):=fun y hy=>by
   have:=h.tail.ge y hy
   omega
  rw [List.set_cons_zero,listM_none]
  cases x with
  | none=>exact withoutL_all hge
  | some p =>
   rw [listM_some,Go.Proofs.Ytpejjpecdkbleaa.Pure.withoutL_no (show (refP p).f0=_ by rw [show (refP p).f0=(k:Int) from h.head];rfl)]
   exact withoutL_all hge
 | x :: m,k,n+1,h=>by
  have ih:=without_set m (k+1) n h.tail
  rw [show k+1+n=k+(n+1) by omega] at ih
  rw [List.set_cons_succ]
  cases x with
  | none=>exact ih
  | some p =>
   rw [listM_some,listM_some,Go.Proofs.Ytpejjpecdkbleaa.Pure.withoutL_yes (show (refP p).f0≠_ by rw [show (refP p).f0=(k:Int) from h.head];omega),ih]
theorem with_set:∀ (m:PM) (k n:Nat) (p q:Pr),NodeAt k m→m[n]?=some (some q)→p.f0=((k+n:Nat):Int)→withL (listM m) (refP p)=listM (m.set n (some p))
 | [],_,_,_,_,_,h,_=>by simp at h
 | x :: m,k,0,p,q,h,hq,hp=>by
  have hge:∀ y∈listM m,y.f0≠(refP p).f0:=fun y hy=>by
   have:=h.tail.ge y hy
   rw [show (refP p).f0=_ from hp]
   omega
  rw [List.set_cons_zero,listM_some]
  have hx:x=some q:=by simpa using hq
  subst hx
  rw [listM_some,Go.Proofs.Ytpejjpecdkbleaa.Pure.withL_same (show (refP q).f0=(refP p).f0 by rw [show (refP q).f0=(k:Int) from h.head,show (refP p).f0=_ from hp];rfl),withL_all hge]
 | x :: m,k,n+1,p,q,h,hq,hp=>by
  have ih:=with_set m (k+1) n p q h.tail (by simpa using hq) (by rw [hp];congr 1;omega)
  rw [List.set_cons_succ]
  cases x with
  | none=>exact ih
  | some r =>
   rw [listM_some,listM_some,Go.Proofs.Ytpejjpecdkbleaa.Pure.withL_other (show (refP r).f0≠(refP p).f0 by rw [show (refP r).f0=(k:Int) from h.head,show (refP p).f0=_ from hp];omega),ih]
theorem ins_set:∀ (m:PM) (k n:Nat) (p:Pr),NodeAt k m→m[n]?=some none→p.f0=((k+n:Nat):Int)→insG (refP p) (listM m)=listM (m.set n (some p))
 | [],_,_,_,_,h,_=>by simp at h
 | x :: m,k,0,p,h,hq,hp=>by
  have hge:∀ y∈listM m,(refP p).f0 < y.f0:=fun y hy=>by
   have:=h.tail.ge y hy
   rw [show (refP p).f0=_ from hp]
   omega
  rw [List.set_cons_zero,listM_some]
  have hx:x=none:=by simpa using hq
  subst hx
  rw [listM_none,insG_head hge]
 | x :: m,k,n+1,p,h,hq,hp=>by
  have ih:=ins_set m (k+1) n p h.tail (by simpa using hq) (by rw [hp];congr 1;omega)
  rw [List.set_cons_succ]
  cases x with
  | none=>exact ih
  | some r =>
   rw [listM_some,listM_some]
   conv=>lhs;unfold insG
   rw [if_neg (show ¬ (refP p).f0 < (refP r).f0 by rw [show (refP r).f0=(k:Int) from h.head,show (refP p).f0=_ from hp];omega),ih]
section
variable {m:PM} {bs:List Bool} {lb:List Int} {n:Int} {room tmo now:Int}
theorem getD_no {α:Type} {l:List (Option α)} {k:Nat} (h:l.getD k none=none):∀ p,l[k]?≠some (some p):=by
 intro p hp
 rw [List.getD_eq_getElem?_getD,hp] at h
 cases h
theorem InvM.mem (hi:InvM m bs) {x:Rf} (h:x∈listM m):∃ (i:Nat) (p:Pr),m[i]?=some (some p)∧refP p=x∧x.f0=(i:Int)∧1≤i∧i≤15:=by
 obtain ⟨i,p,hp,rfl⟩:=listM_mem.1 h
 have h1:=hi.node i p hp
 have h2:i < m.length:=(List.getElem?_eq_some_iff.1 hp).1
 rw [hi.len] at h2
 exact ⟨i,p,hp,rfl,h1.1,h1.2.1,by omega⟩
theorem find_none (hi:InvM m bs) (h:atM m n=none):findI (listM m) n 0=-1:=by
 refine findI_none _ _ _ (fun x hx e=>?_)
 obtain ⟨i,p,hp,_,h0,h1,h2⟩:=hi.mem hx
 have hn:n=(i:Int):=e.symm.trans h0
 unfold atM at h
 rw [if_pos (by omega),hn,Int.toNat_natCast] at h
 exact getD_no h p hp
theorem find_some (hi:InvM m bs) {p:Pr} (h:atM m n=some p):∃ j:Nat,j < (listM m).length∧findI (listM m) n 0=(j:Int)∧(listM m)[j]?=some (refP p):=by
 obtain ⟨k,rfl,k1,k2,hk⟩:=atM_some h
 obtain ⟨j,hj,e,y,hy,hyn⟩:=findI_some (listM m) (k:Int) 0 (refP p) (listM_mem.2 ⟨k,p,hk,rfl⟩) (hi.node k p hk).1
 refine ⟨j,hj,by rw [e];congr 1;omega,?_⟩
 obtain ⟨i,q,hq,rfl,h0,_,_⟩:=hi.mem (List.mem_of_getElem? hy)
 have:i=k:=by
  have:(i:Int)=(k:Int):=h0.symm.trans hyn
  omega
 subst this
 rw [hk] at hq
 cases hq
 exact hy
theorem setR_sim (hi:InvM m bs) (bad:Bool) (f:Pr→Pr) (f':Rf→Rf) (h0:∀ p,(f p).f0=p.f0) (hf:∀ (i:Nat) (p:Pr),m[i]?=some (some p)→f' (refP p)=refP (f p)) :
  setR (listM m) n bad f'=(listM (if bad=true then m else setM m n f),if bad=true then 1 else withC m n):=by
 unfold setR
 cases bad with
 | true=>simp
 | false =>
  simp only [Bool.false_eq_true,if_false]
  unfold setM withC
  match hx:atM m n with
  | none=>rw [find_none hi hx,if_pos (show (-1:Int) < 0 by omega)]
  | some p =>
   obtain ⟨j,hj,e,hy⟩:=find_some hi hx
   obtain ⟨k,rfl,k1,k2,hk⟩:=atM_some hx
   rw [e,if_neg (show ¬ (j:Int) < 0 by omega),rdp _ j hj]
   have hyj:(listM m)[j]=refP p:=by
    rw [List.getElem?_eq_getElem hj] at hy
    exact Option.some.inj hy
   rw [hyj,hf k p hk]
   have:=with_set m 0 k (f p) p hi.nodeAt hk (by rw [h0,Nat.zero_add];exact (hi.node k p hk).1)
   rw [this]
   simp
theorem leaveR_sim (hi:InvM m bs):leaveR (listM m) n=(listM (leaveM m n),withC m n):=by
 unfold leaveR leaveM withC
 match hx:atM m n with
 | none=>rw [find_none hi hx,if_pos (show (-1:Int) < 0 by omega)]
 | some p =>
  obtain ⟨j,hj,e,hy⟩:=find_some hi hx
  obtain ⟨k,rfl,k1,k2,hk⟩:=atM_some hx
  have:=without_set m 0 k hi.nodeAt
  rw [Nat.zero_add] at this
  rw [e,if_neg (show ¬ (j:Int) < 0 by omega),this]
  simp
/-- Who was banned. -/
structure SimB (bs:List Bool) (lb:List Int):Prop where
 of:∀ k:Nat,k < 16→(bs.getD k false=true↔(k:Int)∈lb)
 all:∀ n∈lb,1≤n∧n≤15
theorem getD_set {α:Type} (l:List α) (k j:Nat) (x d:α) (hk:k < l.length):(l.set k x).getD j d=if j=k then x else l.getD j d:=by
 rw [List.getD_eq_getElem?_getD,List.getD_eq_getElem?_getD]
 by_cases h:j=k
 ·
  subst h
  rw [List.getElem?_set_self hk,if_pos rfl]
  rfl
 ·
  rw [List.getElem?_set_ne (Ne.symm h),if_neg h]
theorem SimB.ban (s:SimB bs lb) (hl:bs.length=16) (h:1≤n∧n≤15):SimB (bs.set n.toNat true) (lb ++ [n]):=by
 obtain ⟨k,rfl⟩:=Int.eq_ofNat_of_zero_le (show 0≤n by omega)
 rw [Int.toNat_natCast]
 refine ⟨fun j hj=>?_,fun x hx=>?_⟩
 ·
  rw [getD_set _ _ _ _ _ (by omega),List.mem_append,List.mem_singleton]
  by_cases hjk:j=k
  ·
   rw [if_pos hjk,hjk]
   simp
  ·
   rw [if_neg hjk,s.of j hj]
   exact ⟨.inl,fun h=>h.resolve_right (by omega)⟩
 ·
  rcases List.mem_append.1 hx with hx|hx
  ·
   exact s.all x hx
  ·
   rw [List.mem_singleton.1 hx]
   exact h
theorem banR_sim (hi:InvM m bs) (s:SimB bs lb):∃ lb',banR (listM m) lb n=(listM (if peerB n=true then m.set n.toNat none else m),lb',if peerB n=true then 0 else 1)∧SimB (if peerB n=true then bs.set n.toNat true else bs) lb'∧lb'.length≤lb.length+1:=by
 unfold banR
 by_cases h:1≤n∧n≤15
 ·
  have hb:peerB n=true:=decide_eq_true h
  rw [if_pos h,if_pos hb,if_pos hb,if_pos hb]
  refine ⟨_,?_,s.ban hi.lb h,by simp⟩
  obtain ⟨k,rfl⟩:=Int.eq_ofNat_of_zero_le (show 0≤n by omega)
  have:=without_set m 0 k hi.nodeAt
  rw [Nat.zero_add] at this
  rw [Int.toNat_natCast,this]
 ·
  have hb:¬ peerB n=true:=fun e=>h (of_decide_eq_true e)
  rw [if_neg h,if_neg hb,if_neg hb,if_neg hb]
  exact ⟨_,rfl,s,by omega⟩
theorem meetR_sim (hi:InvM m bs) (s:SimB bs lb) (x y:Int):meetR room (listM m) lb n x y now=(listM (meetM room m bs n x y now),meetC room m bs n x y now):=by
 unfold meetR meetM meetC
 by_cases h:(1≤n∧n≤15)∧((-1048576≤x∧x≤1048576)∧(-1048576≤y∧y≤1048576))∧(0≤now∧now≤1099511627776)
 ·
  have hb:peerB n=true∧placeB x y=true∧tickB now=true:=⟨decide_eq_true h.1,decide_eq_true h.2.1,decide_eq_true h.2.2⟩
  rw [if_pos h,if_pos hb]
  obtain ⟨h1,_,_⟩:=h
  obtain ⟨k,rfl⟩:=Int.eq_ofNat_of_zero_le (show 0≤n by omega)
  rw [Int.toNat_natCast]
  have hk:k < 16:=by omega
  by_cases h2:bs.getD k false=true
  ·
   rw [if_pos ((s.of k hk).1 h2),if_pos h2,if_neg (show ¬ (10:Int)=0 by omega)]
  ·
   rw [if_neg (fun e=>h2 ((s.of k hk).2 e)),if_neg h2]
   have hat:atM m (k:Int)=m.getD k none:=by
    unfold atM
    rw [if_pos h1,Int.toNat_natCast]
   match hx:m.getD k none with
   | some p =>
    obtain ⟨j,hj,e,hy⟩:=find_some hi (hat.trans hx)
    rw [e,if_pos (show (0:Int)≤(j:Int) by omega),if_pos (show (some p:Option Pr)≠none by simp),if_neg (show ¬ (5:Int)=0 by omega)]
   | none =>
    rw [find_none hi (hat.trans hx),if_neg (show ¬ (0:Int)≤-1 by omega),if_neg (show ¬ ((none:Option Pr)≠none) by simp),listM_len]
    by_cases h3:room≤((m.filterMap id).length:Int)
    ·
     rw [if_pos h3,if_pos h3,if_neg (show ¬ (6:Int)=0 by omega)]
    ·
     rw [if_neg h3,if_neg h3,if_pos rfl]
     have hmk:m[k]?=some none:=by
      rw [List.getD_eq_getElem?_getD,List.getElem?_eq_getElem (by rw [hi.len];exact hk)] at hx
      rw [List.getElem?_eq_getElem (by rw [hi.len];exact hk)]
      exact congrArg some hx
     have:=ins_set m 0 k (met k x y now) hi.nodeAt hmk (by rw [Nat.zero_add];rfl)
     rw [← this]
     rfl
 ·
  have hb:¬ (peerB n=true∧placeB x y=true∧tickB now=true):=fun e=>h ⟨of_decide_eq_true e.1,of_decide_eq_true e.2.1,of_decide_eq_true e.2.2⟩
  rw [if_neg h,if_neg hb,if_neg (show ¬ (1:Int)=0 by omega)]
theorem roll_sim:∀ m:PM,(listM m).map rollR=listM (m.map (Option.map roll1))
 | []=>rfl
 | none :: m=>roll_sim m
 | some p :: m=>by
  rw [listM_some,List.map_cons,roll_sim m]
  rfl
def lateP (tmo now:Int) (x:Rf):Bool:=decide (tmo < now - x.f6)
theorem gone_sim (h:NodeAt 0 m):∀ i,goneM now tmo m i=((listM (m.take i)).filter (lateP tmo now)).map (·.f0)
 | 0=>rfl
 | i+1=>by
  unfold goneM
  rw [gone_sim h i,List.take_add_one]
  have hap:∀ a b:PM,listM (a ++ b)=listM a ++ listM b:=by
   intro a b
   unfold listM
   rw [List.filterMap_append,List.map_append]
  rw [hap,List.filter_append,List.map_append]
  congr 1
  match hx:m[i]? with
  | none=>rfl
  | some none=>rfl
  | some (some p) =>
   have hp:p.f0=(i:Int):=by
    have:=h i p hx
    rwa [Nat.zero_add] at this
   show (if lateB now tmo p=true then [(i:Int)] else [])=((listM [some p]).filter (lateP tmo now)).map (·.f0)
   rw [listM_some,listM_nil]
   by_cases hl:lateB now tmo p=true
   ·
    rw [if_pos hl,List.filter_cons,if_pos (show lateP tmo now (refP p)=true from hl)]
    show _=[p.f0]
    rw [hp]
   ·
    rw [if_neg hl,List.filter_cons,if_neg (show ¬ lateP tmo now (refP p)=true from hl)]
    rfl
theorem late_sim (hi:InvM m bs):lateR tmo (listM m) now=if tickB now=true then goneM now tmo m 16 else []:=by
 unfold lateR
 by_cases h:0≤now∧now≤1099511627776
 ·
  rw [if_pos h,if_pos (show tickB now=true from decide_eq_true h),gone_sim hi.nodeAt,List.take_of_length_le (by rw [hi.len];omega)]
  rfl
 ·
  rw [if_neg h,if_neg (show ¬ tickB now=true from fun e=>h (of_decide_eq_true e))]
theorem exp_list:∀ m:PM,(listM m).filter (fun x=>!lateP tmo now x)=listM (m.map (expM now tmo))
 | []=>rfl
 | none :: m=>exp_list m
 | some p :: m=>by
  rw [listM_some,List.map_cons]
  by_cases hl:lateB now tmo p=true
  ·
   rw [List.filter_cons,if_neg (show ¬ (!lateP tmo now (refP p))=true by rw [show lateP tmo now (refP p)=true from hl];simp),exp_list m,show expM now tmo (some p)=none from if_pos hl,listM_none]
  ·
   have hl2:lateB now tmo p=false:=by simpa using hl
   rw [List.filter_cons,if_pos (show (!lateP tmo now (refP p))=true by rw [show lateP tmo now (refP p)=false from hl2];simp),exp_list m,show expM now tmo (some p)=some p from if_neg hl,listM_some]
theorem exp_sim (hi:InvM m bs):expR tmo (listM m) now=listM (if tickB now=true then m.map (expM now tmo) else m):=by
 unfold expR
 by_cases h:tickB now=true
 ·
  rw [if_pos h,← exp_list]
  apply List.filter_congr
  intro x hx
  rw [Bool.eq_iff_iff,decide_eq_true_eq,Bool.not_eq_true']
  unfold lateR
  rw [if_pos (of_decide_eq_true h),List.mem_map]
  constructor
  ·
   intro hn
   cases hl:lateP tmo now x with
   | false=>rfl
   | true=>exact absurd ⟨x,List.mem_filter.2 ⟨hx,hl⟩,rfl⟩ hn
  ·
   rintro hl ⟨y,hy,e⟩
   obtain ⟨hy1,hy2⟩:=List.mem_filter.1 hy
   obtain ⟨i,p,hp,rfl,h0,_,_⟩:=hi.mem hx
   obtain ⟨j,q,hq,rfl,h0',_,_⟩:=hi.mem hy1
   have:j=i:=by
    have:(j:Int)=(i:Int):=h0'.symm.trans (e.trans h0)
    omega
   subst this
   rw [hp] at hq
   cases hq
   rw [show decide (tmo < now - (refP p).f6)=lateP tmo now (refP p) from rfl,hl] at hy2
   cases hy2
 ·
  rw [if_neg h]
  unfold lateR
  rw [if_neg (fun e=>h (decide_eq_true e))]
  exact List.filter_eq_self.2 (by simp)
end
end Go.Proofs.Ytpejjpecdkbleaa.Print
/-! #### Pr38 -/
namespace Go.Proofs.Ytpejjpecdkbleaa.Print
open Go.RowKit Go.Proofs.YtpejjpecdkbleaaW.PrintWords Go.Proofs.YtpejjpecdkbleaaW.PrintLast Go.Proofs.YtpejjpecdkbleaaW.PrintMore
attribute [local go_sem] max2_int min2_int max_two min_two max_three min_three max_four min_four
set_option linter.unusedVariables false
set_option linter.unusedSimpArgs false
/-! ### mosaiclaw17_Ref: function 38 -/
def mosaiclaw17_Ref.f (a0_0:Int) (a0_1:Int):Option (Int×Int):=some (a0_0,a0_1)
set_option maxHeartbeats 8000000 in
set_option maxRecDepth 100000 in
theorem mosaiclaw17_Ref.calls (a0_0:Int) (a0_1:Int) (r1:Int) (r2:Int) (w:World) (h:mosaiclaw17_Ref.f a0_0 a0_1=some (r1,r2)) :
  Calls Try.prog 38 #[.agg #[.int .i64 a0_0,.int .i64 a0_1]] w fun e w'=>e=.returned (.agg #[.int .i64 r1,.int .i64 r2])∧Below w.heap.size w w':=by
 have hu30:=Try.underlying30
 have hu54:=Try.underlying54
 have HB:=Aside0.mk (Below.refl w.heap.size w)
 have H:(some (a0_0,a0_1))=some (r1,r2):=h
 clear h
 simp only [Option.some.injEq,Prod.mk.injEq] at H
 obtain ⟨rfl,rfl⟩:=H
 go_enter Try.func38,Try.ntmps38
 go_wp2_with (first|((with_reducible refine gate_dst (N:=1) rfl ?_);refine box_event ?hg (N:=1) ?hd (cs:=#[.int .i64 a0_0,.int .i64 a0_1]) (t:=30) ?hr ?_;(case hd=>rfl);(case hg=>rfl);(case hr=>first|(go_simp;done)|(go_simp;rfl));intro gb1 hg w2 hbox hb;have n0_:=Aside0.mk (below_step (by repeat (first|(with_reducible first|exact HB.out|apply below_alloc|apply pw_below_drewN|apply below_drew1)|exact HB.out)) hb);have n1_:=Aside0.mk (hbox);have n2_:=Aside0.mk ((by rw [hg];exact (below_size (by repeat (first|(with_reducible first|exact HB.out|apply below_alloc|apply pw_below_drewN|apply below_drew1)|exact HB.out))):w.heap.size≤gb1));have n3_:=Aside0.mk ((by rw [hg];exact (below_size (by repeat (first|(with_reducible first|exact HB.out|apply below_alloc|apply pw_below_drewN|apply below_drew1)|exact HB.out))):w.heap.size≤gb1));clear HB;have HB:=n0_;have BK1:=n1_;have GW1:=n2_;have GE1:=n3_;clear n0_ n1_ n2_ n3_;clear hb hbox hg)|((with_reducible refine gate_dst (N:=2) rfl ?_);refine box_event ?hg (N:=2) ?hd (cs:=#[.int .i64 0,.int .i64 0]) (t:=54) ?hr ?_;(case hd=>rfl);(case hg=>rfl);(case hr=>first|(go_simp;done)|(go_simp;rfl));intro gb2 hg w3 hbox hb;have n0_:=Aside0.mk (blk_below (g:=gb1) (o:=.cells #[.int .i64 a0_0,.int .i64 a0_1] 30 (0,0)) (by (with_reducible repeat (first|refine blk_drewN ?_ _|refine blk_drew ?_|refine blk_alloc ?_ _));exact BK1.out) hb);have n1_:=Aside0.mk (below_step (by repeat (first|(with_reducible first|exact HB.out|apply below_alloc|apply pw_below_drewN|apply below_drew1|refine below_set ?_ GE1.out)|exact HB.out)) hb);have n2_:=Aside0.mk (hbox);have n3_:=Aside0.mk ((by rw [hg];exact (below_size (by repeat (first|(with_reducible first|exact HB.out|apply below_alloc|apply pw_below_drewN|apply below_drew1|refine below_set ?_ GE1.out)|exact HB.out))):w.heap.size≤gb2));have n4_:=Aside0.mk ((by rw [hg];exact (below_size (by repeat (first|(with_reducible first|exact HB.out|apply below_alloc|apply pw_below_drewN|apply below_drew1|refine below_set ?_ GE1.out)|exact HB.out))):w.heap.size≤gb2));have n5_:=Aside0.mk ((by rw [hg];exact Nat.ne_of_lt (blk_lt (g:=gb1) (o:=.cells #[.int .i64 a0_0,.int .i64 a0_1] 30 (0,0)) (by (with_reducible repeat (first|refine blk_drewN ?_ _|refine blk_drew ?_|refine blk_alloc ?_ _));exact BK1.out)):gb1≠gb2));have n6_:=Aside0.mk ((by rw [hg];exact Nat.ne_of_gt (blk_lt (g:=gb1) (o:=.cells #[.int .i64 a0_0,.int .i64 a0_1] 30 (0,0)) (by (with_reducible repeat (first|refine blk_drewN ?_ _|refine blk_drew ?_|refine blk_alloc ?_ _));exact BK1.out)):gb2≠gb1));clear BK1;clear HB;have BK1:=n0_;have HB:=n1_;have BK2:=n2_;have GW2:=n3_;have GE2:=n4_;have NB1_2:=n5_;have NB2_1:=n6_;clear n0_ n1_ n2_ n3_ n4_ n5_ n6_;clear hb hbox hg;have hnb4:=NB1_2.out;have hnc4:=NB2_1.out;have hcz5_0:w3.cell? ⟨gb1,0,none⟩=some (.int .i64 a0_0):=(blk_cell BK1.out 0).trans rfl;have hcz5_1:w3.cell? ⟨gb1,1,none⟩=some (.int .i64 a0_1):=(blk_cell BK1.out 1).trans rfl;have hfz5_0:=blk_frozen BK1.out 0;have hfz5_1:=blk_frozen BK1.out 1;have hcz6_0:w3.cell? ⟨gb2,0,none⟩=some (.int .i64 0):=(blk_cell BK2.out 0).trans rfl;have hcz6_1:w3.cell? ⟨gb2,1,none⟩=some (.int .i64 0):=(blk_cell BK2.out 1).trans rfl;have hfz6_0:=blk_frozen BK2.out 0;have hfz6_1:=blk_frozen BK2.out 1))
 refine bodyPost_ret (results_cell_row rfl _ _ gb2 54 #[.int .i64 a0_0,.int .i64 a0_1] (0,0) _ rfl (by (with_reducible repeat (first|refine blk_drewN ?_ _|refine blk_drew ?_|refine blk_alloc ?_ _));refine blk_put (cs:=#[.int .i64 a0_0,.int .i64 0]) ?_ 1 _ rfl;(with_reducible repeat (first|refine blk_drewN ?_ _|refine blk_drew ?_|refine blk_alloc ?_ _));refine blk_put (cs:=#[.int .i64 0,.int .i64 0]) ?_ 0 _ rfl;(with_reducible repeat (first|refine blk_drewN ?_ _|refine blk_drew ?_|refine blk_alloc ?_ _));exact BK2.out) Try.underlying54 rfl (by kernel_rfl)) rfl ?_
 exact ⟨by first|rfl|(simp [errW_none,errW_some] <;> rfl)|(simp [*,errW_none,errW_some] <;> rfl),by repeat (first|(with_reducible first|exact HB.out|apply below_alloc|apply pw_below_drewN|apply below_drew1|refine below_set ?_ GE1.out|refine below_set ?_ GE2.out)|exact HB.out)⟩
end Go.Proofs.Ytpejjpecdkbleaa.Print
