/- The proof of the statement PeersPlays of the seat, part 2 of 6: the functions that it reaches, as plain functions, with the walks that show it, and what they come to; the last part ends in the row. No condition beyond the statement's own. -/
import Derived.IntWalk
import Derived.BigQuiet
import Derived.Deep.QuietTactic
import Derived.Deep.RegionLaw
import Derived.Deep.MidRow
import Derived.RegionTactic
import Derived.StillTailTactics
import Derived.Outline
import Derived.Shelf.GgClosure.Gives
import Derived.Laws.CopyOwn
import Derived.Test.YtpejjpecdkbleaaBPeersPlays1
/-! #### MaPeers6 -/
/- peers: Roll. -/
namespace Go.Proofs.Ytpejjpecdkbleaa.Print
open Go.RowKit Go.Proofs.YtpejjpecdkbleaaW.PrintWords Go.Proofs.YtpejjpecdkbleaaW.PrintLast Go.Proofs.YtpejjpecdkbleaaW.PrintMore
set_option linter.unusedVariables false
set_option linter.unusedSimpArgs false
section
variable {w W W1 W2:World} {g:Nat} {room tmo:Int} {ps ps' ps1 ps2:Slots} {bs bs' bs1 bs2:List Bool}
theorem Acted.trans (a:Acted w W W1 g room tmo ps ps1 bs1) (b:Acted w W1 W2 g room tmo ps1 ps2 bs2) (h:∀ k,Foot g ps1 k→Foot g ps k):Acted w W W2 g room tmo ps ps2 bs2:=⟨b.tab,a.kept.then_ b.kept (fun k hk=>.inl (h k hk))⟩
theorem foot_set {n b:Nat} {p p':Pr} (h:ps[n]?=some (some (b,p))) (k:Nat) (hk:Foot g (ps.set n (some (b,p'))) k):Foot g ps k:=by
 rcases hk with rfl|⟨i,q,hi⟩
 ·
  exact .inl rfl
 ·
  by_cases hin:i=n
  ·
   subst hin
   rw [List.getElem?_set_self (List.getElem?_eq_some_iff.1 h).1] at hi
   simp only [Option.some.injEq,Prod.mk.injEq] at hi
   exact .inr ⟨i,p,by rw [h,hi.1]⟩
  ·
   rw [List.getElem?_set_ne (Ne.symm hin)] at hi
   exact .inr ⟨i,q,hi⟩
def roll1 (p:Pr):Pr:={ p with f7:=0,f8:=p.f7 }
def rollO (x:Option (Nat×Pr)):Option (Nat×Pr):=x.map fun bp=>(bp.1,roll1 bp.2)
def rollI (ps:Slots) (i:Nat):Slots:=(ps.take i).map rollO ++ ps.drop i
theorem rollI_get (ps:Slots) (i j:Nat):(rollI ps i)[j]?=if j < i then (ps[j]?).map rollO else ps[j]?:=by
 unfold rollI
 by_cases h:j < i
 ·
  rw [if_pos h]
  by_cases hl:j < ps.length
  ·
   rw [List.getElem?_append_left (by rw [List.length_map,List.length_take];omega),List.getElem?_map,List.getElem?_take_of_lt h]
  ·
   rw [List.getElem?_append_right (by rw [List.length_map,List.length_take];omega),List.getElem?_drop,List.getElem?_eq_none (by rw [List.length_map,List.length_take];omega),List.getElem?_eq_none (by omega)]
   rfl
 ·
  rw [if_neg h]
  by_cases hl:i≤ps.length
  ·
   rw [List.getElem?_append_right (by rw [List.length_map,List.length_take];omega),List.length_map,List.length_take,List.getElem?_drop]
   congr 1
   omega
  ·
   rw [List.getElem?_eq_none (by rw [List.length_append,List.length_map,List.length_take,List.length_drop];omega),List.getElem?_eq_none (by omega)]
theorem rollI_foot (i k:Nat) (hk:Foot g (rollI ps i) k):Foot g ps k:=by
 rcases hk with rfl|⟨j,q,hj⟩
 ·
  exact .inl rfl
 ·
  rw [rollI_get] at hj
  by_cases h:j < i
  ·
   rw [if_pos h] at hj
   match hx:ps[j]? with
   | none=>rw [hx] at hj;exact absurd hj (by simp)
   | some none=>rw [hx] at hj;exact absurd hj (by simp [rollO])
   | some (some (b,p)) =>
    rw [hx] at hj
    simp only [rollO,Option.map_some,Option.some.injEq,Prod.mk.injEq] at hj
    exact .inr ⟨j,p,by rw [hx,hj.1]⟩
  ·
   rw [if_neg h] at hj
   exact .inr ⟨j,q,hj⟩
theorem rollI_none {i:Nat} (h:ps[i]?=some none):rollI ps (i+1)=rollI ps i:=by
 apply List.ext_getElem?
 intro j
 rw [rollI_get,rollI_get]
 by_cases h1:j < i
 ·
  rw [if_pos h1,if_pos (by omega)]
 ·
  rw [if_neg h1]
  by_cases h2:j=i
  ·
   subst h2
   rw [if_pos (by omega),h]
   rfl
  ·
   rw [if_neg (by omega)]
theorem rollI_len (ps:Slots) (i:Nat):(rollI ps i).length=ps.length:=by
 unfold rollI
 rw [List.length_append,List.length_map,List.length_take,List.length_drop]
 omega
theorem rollI_some {i b:Nat} {p:Pr} (h:ps[i]?=some (some (b,p))):rollI ps (i+1)=(rollI ps i).set i (some (b,roll1 p)):=by
 have hl:i < ps.length:=(List.getElem?_eq_some_iff.1 h).1
 apply List.ext_getElem?
 intro j
 by_cases h2:j=i
 ·
  subst h2
  rw [List.getElem?_set_self (by rw [rollI_len];exact hl),rollI_get,if_pos (by omega),h]
  rfl
 ·
  rw [List.getElem?_set_ne (Ne.symm h2),rollI_get,rollI_get]
  by_cases h1:j < i
  ·
   rw [if_pos h1,if_pos (by omega)]
  ·
   rw [if_neg h1,if_neg (by omega)]
theorem rollI_all (h:ps.length=16):rollI ps 16=ps.map rollO:=by
 unfold rollI
 rw [List.take_of_length_le (Nat.le_of_eq h),List.drop_eq_nil_of_le (Nat.le_of_eq h),List.append_nil]
theorem set_set_slot {n:Nat} (ps:Slots) (x y:Option (Nat×Pr)):(ps.set n x).set n y=ps.set n y:=by simp
theorem Tab.rolled (t:Tab w W g room tmo ps bs) {i b:Nat} {p:Pr} (h:ps[i]?=some (some (b,p))):Acted w W ((W.setCell ⟨b,9,none⟩ (.int .i64 p.f7)).setCell ⟨b,8,none⟩ (.int .i64 0)) g room tmo ps (ps.set i (some (b,roll1 p))) bs:=by
 have a1:=t.wrote h 9 (.int .i64 p.f7) ⟨0,rfl⟩ { p with f8:=p.f7 } rfl rfl
 have hl:i < ps.length:=(List.getElem?_eq_some_iff.1 h).1
 have a2:=a1.tab.wrote (List.getElem?_set_self hl) 8 (.int .i64 0) ⟨0,rfl⟩ (roll1 p) rfl rfl
 rw [set_set_slot] at a2
 exact a1.trans a2 (fun k hk=>foot_set h k hk)
set_option maxHeartbeats 1600000 in
set_option maxRecDepth 100000 in
theorem Tab.Roll_ (t:Tab w W g room tmo ps bs):Calls Try.prog 16 #[.pointer (some ⟨g,0,none⟩)] W fun e W2=>e=.returned (.tuple #[])∧Acted w W W2 g room tmo ps (ps.map rollO) bs:=by
 have HT:=Aside0.mk t
 clear t
 go_enter Try.func16,Try.ntmps16
 go_wp2_with (refine wpList_load_mid rfl 83 (.tmp 8) rfl g 2 rfl (ps.map ptrOf) _ HT.out.row Try.underlying83 rfl (info83.trans (by rw [HT.out.sixteen])) ?_)
 go_loopg [10] 16 (fun gg v10 wr=>∃ (i:Nat),v10=.int .i64 i∧Aside0 (i+gg=16)∧Aside0 (Acted w W wr g room tmo ps (rollI ps i) bs))
 case atStart=>exact ⟨0,rfl,⟨rfl⟩,⟨Acted.refl HT.out (Below.refl _ _)⟩⟩
 case round =>
  obtain ⟨i,rfl,HG,HA⟩:=hrel
  by_cases hlt:(i:Int) < 16
  ·
   obtain ⟨gg,rfl⟩:∃ m,gk=m+1:=⟨gk - 1,by have:=HG.out;omega⟩
   have hi:i < 16:=by omega
   have hil:i < ps.length:=by rw [HT.out.lp];exact hi
   cases hp:ps[i]? with
   | none=>rw [List.getElem?_eq_none_iff] at hp;omega
   | some x =>
    have hx:(ps.map ptrOf)[i]?=some (ptrOf x):=by rw [List.getElem?_map,hp];rfl
    have hix:=index16 (ps.map ptrOf) HT.out.sixteen i hi _ hx
    clear hx hil
    cases x with
    | none =>
     simp only [ptrOf] at hix
     have HP:=Aside0.mk hp
     clear hp
     go_wp2_with fail
     go_roundg gg
     case measure=>omega
     case rel=>exact ⟨i+1,rfl,⟨by have:=HG.out;omega⟩,⟨by rw [rollI_none HP.out];exact HA.out⟩⟩
    | some bp =>
     obtain ⟨b,p⟩:=bp
     simp only [ptrOf] at hix
     have hpr:(rollI ps i)[i]?=some (some (b,p)):=by rw [rollI_get,if_neg (by omega),hp]
     have c7:wr.cell? ⟨b,8,none⟩=some (.int .i64 p.f7):=HA.out.tab.pcell hpr 8
     have c8:wr.cell? ⟨b,9,none⟩=some (.int .i64 p.f8):=HA.out.tab.pcell hpr 9
     have f7:=HA.out.tab.pfrz hpr 8
     have f8:=HA.out.tab.pfrz hpr 9
     have HP:=Aside0.mk hp
     have HR:=Aside0.mk hpr
     clear hp hpr
     go_wp2_with fail
     go_roundg gg
     case measure=>omega
     case rel=>exact ⟨i+1,rfl,⟨by have:=HG.out;omega⟩,⟨by rw [rollI_some HP.out];exact HA.out.trans (HA.out.tab.rolled HR.out) (fun k hk=>rollI_foot i k hk)⟩⟩
  ·
   obtain rfl:i=16:=by have:=HG.out;omega
   go_wp2_with fail
   go_end0
   refine ⟨rfl,?_⟩
   rw [← rollI_all HT.out.lp]
   exact HA.out
end
end Go.Proofs.Ytpejjpecdkbleaa.Print
/-! #### MaPeers7 -/
/- peers: Meet. -/
namespace Go.Proofs.Ytpejjpecdkbleaa.Print
open Go.RowKit Go.Proofs.YtpejjpecdkbleaaW.PrintWords Go.Proofs.YtpejjpecdkbleaaW.PrintLast Go.Proofs.YtpejjpecdkbleaaW.PrintMore
set_option linter.unusedVariables false
set_option linter.unusedSimpArgs false
section
variable {w W W1 W2:World} {g:Nat} {room tmo:Int} {ps ps' ps1 ps2:Slots} {bs bs' bs1 bs2:List Bool}
theorem check_yes (x y:Int) (h:(-1048576≤x∧x≤1048576)∧(-1048576≤y∧y≤1048576)) (W:World):Calls Try.prog 47 #[.agg #[.int .i64 x,.int .i64 y]] W fun e W2=>e=.returned (.bool true)∧Below W.heap.size W W2 :=
 plane_Check.calls x y true W (by rw [check_f,decide_eq_true h])
theorem check_no (x y:Int) (h:¬ ((-1048576≤x∧x≤1048576)∧(-1048576≤y∧y≤1048576))) (W:World):Calls Try.prog 47 #[.agg #[.int .i64 x,.int .i64 y]] W fun e W2=>e=.returned (.bool false)∧Below W.heap.size W W2 :=
 plane_Check.calls x y false W (by rw [check_f,decide_eq_false h])
/-- A peer that has just been met. -/
def met (n x y now:Int):Pr:={ z33 with f0:=n,f1:=⟨x,y⟩,f6:=now }
theorem Tab.meeting (t:Tab w W g room tmo ps bs) (n:Nat) (hn:n < 16) (p:Pr) (hf:p.f0=(n:Int)) (m:Nat):Acted w W (((W.setCell ⟨g,2+n,none⟩ (.pointer (some ⟨W.heap.size,0,none⟩))).alloc (.cells (peerC p).toArray 33)).drewN m) g room tmo ps (ps.set n (some (W.heap.size,p))) bs:=by
 have hk:=KeepBut.set_ (KeepBut.refl W g none) (2+n) (.pointer (some ⟨W.heap.size,0,none⟩))
 have hsz:(W.setCell ⟨g,2+n,none⟩ (.pointer (some ⟨W.heap.size,0,none⟩))).heap.size=W.heap.size:=by simp
 have hnl:n < ps.length:=by rw [t.lp];exact hn
 have hbel:Below w.heap.size w (W.setCell ⟨g,2+n,none⟩ (.pointer (some ⟨W.heap.size,0,none⟩))):=t.bel.setCell t.ge _
 have hal:=pw_below_drewN (below_alloc (Below.refl (W.setCell ⟨g,2+n,none⟩ (.pointer (some ⟨W.heap.size,0,none⟩))).heap.size (W.setCell ⟨g,2+n,none⟩ (.pointer (some ⟨W.heap.size,0,none⟩)))) (.cells (peerC p).toArray 33)) m
 have hnew:=blk_drewN (heap_alloc_new (W.setCell ⟨g,2+n,none⟩ (.pointer (some ⟨W.heap.size,0,none⟩))) (.cells (peerC p).toArray 33)) m
 rw [hsz] at hnew
 have hg:∀ (i b':Nat) (q:Pr),(ps.set n (some (W.heap.size,p)))[i]?=some (some (b',q))→(i=n∧b'=W.heap.size∧q=p)∨(i≠n∧ps[i]?=some (some (b',q))):=by
  intro i b' q hi
  by_cases hin:i=n
  ·
   subst hin
   rw [List.getElem?_set_self hnl] at hi
   simp only [Option.some.injEq,Prod.mk.injEq] at hi
   exact .inl ⟨rfl,hi.1.symm,hi.2.symm⟩
  ·
   rw [List.getElem?_set_ne (Ne.symm hin)] at hi
   exact .inr ⟨hin,hi⟩
 refine ⟨⟨?_,by rw [List.length_set];exact t.lp,t.lb,fun i b' q hi=>?_,fun i j b' q1 q2 h1 h2=>?_,t.ge,below_step hbel hal⟩,(kept_of_keep hk (.inl rfl)).then_ (Kept.of_below hal (fun _=>False)) (fun _ h=>h.elim)⟩
 ·
  refine blk_below ?_ hal
  exact blk_put t.blk (2+n) _ (by rw [← tabC_slot room tmo ps bs n (some (W.heap.size,p)) hnl];simp [ptrOf])
 ·
  rcases hg i b' q hi with ⟨rfl,rfl,rfl⟩|⟨hne,hi2⟩
  ·
   exact ⟨hnew,Nat.le_trans t.ge (Nat.le_of_lt t.lt),hf⟩
  ·
   exact ⟨blk_below (hk.blk (t.node i b' q hi2).1 (t.ne hi2) (by simp)) hal,(t.node i b' q hi2).2⟩
 ·
  rcases hg i b' q1 h1 with ⟨e1,f1,g1⟩|⟨n1,k1⟩ <;> rcases hg j b' q2 h2 with ⟨e2,f2,g2⟩|⟨n2,k2⟩
  ·
   rw [e1,e2]
  ·
   have:=blk_lt (t.node _ _ _ k2).1
   omega
  ·
   have:=blk_lt (t.node _ _ _ k1).1
   omega
  ·
   exact t.inj _ _ _ _ _ k1 k2
set_option maxHeartbeats 1600000 in
set_option maxRecDepth 100000 in
theorem Tab.Meet_yes (t:Tab w W g room tmo ps bs) (n:Nat) (h1:1≤n) (h2:n≤15) (x y now:Int) (hc:(-1048576≤x∧x≤1048576)∧(-1048576≤y∧y≤1048576)) (hn:0≤now∧now≤1099511627776) (hb:bs.getD n false=false) (hp:ps.getD n none=none) (hr:((there ps).length:Int) < room) :
  Calls Try.prog 14 #[.pointer (some ⟨g,0,none⟩),.int .i64 n,.agg #[.int .i64 x,.int .i64 y],.int .i64 now] W fun e W2=>e=.returned (.int .i64 0)∧∃ b,Acted w W W2 g room tmo ps (ps.set n (some (b,met n x y now))) bs:=by
 have HT:=Aside0.mk t
 have HP:=Aside0.mk (peer_yes n h1 h2)
 have HC:=Aside0.mk (check_yes x y hc)
 have HK:=Aside0.mk (tick_yes now hn)
 have HBN:=Aside0.mk hb
 have HPN:=Aside0.mk hp
 have HRM:=Aside0.mk hr
 clear t hc hn hb hp hr
 have hnz:(n:Int) < 16:=by omega
 go_enter Try.func14,Try.ntmps14
 have hblk0:(W.alloc (.cells #[.int .i64 x,.int .i64 y] 30)).heap[W.heap.size]?=some (.cells #[.int .i64 x,.int .i64 y] 30 (0,0)):=heap_alloc_new W _
 have hb0:Below W.heap.size W (W.alloc (.cells #[.int .i64 x,.int .i64 y] 30)):=below_alloc (Below.refl W.heap.size W) _
 have hd0:=HT.out.below hb0
 have HBLK:=Aside0.mk hblk0
 have HB:=Aside0.mk hb0
 have HT0:=Aside0.mk hd0
 clear hblk0 hb0 hd0
 go_wp2_with fail
 refine (HP.out _).mono ?_
 rintro e W2 ⟨rfl,hd⟩
 have hl:=HBLK.out
 have HBLK2:=Aside0.mk (blk_below HBLK.out hd.below)
 have HB2:=Aside0.mk (below_step HB.out hd.below)
 have HT2:=Aside0.mk (HT0.out.below hd.below)
 clear hl hd HBLK HB HT0
 have hx0:W2.cell? ⟨W.heap.size,0,none⟩=some (.int .i64 x):=by rw [blk_cell HBLK2.out];rfl
 have hx1:W2.cell? ⟨W.heap.size,1,none⟩=some (.int .i64 y):=by rw [blk_cell HBLK2.out];rfl
 go_wp2_with fail
 refine (HC.out _).mono ?_
 rintro e W3 ⟨rfl,hd⟩
 have HBLK3:=Aside0.mk (blk_below HBLK2.out hd)
 have HB3:=Aside0.mk (below_step HB2.out hd)
 have HT3:=Aside0.mk (HT2.out.below hd)
 clear hd HBLK2 HB2 HT2 hx0 hx1
 go_wp2_with fail
 refine (HK.out _).mono ?_
 rintro e W4 ⟨rfl,hd⟩
 have HBLK4:=Aside0.mk (blk_below HBLK3.out hd.below)
 have HB4:=Aside0.mk (below_step HB3.out hd.below)
 have HT4:=Aside0.mk (HT3.out.below hd.below)
 clear hd HBLK3 HB3 HT3
 have cb:W4.cell? ⟨g,18+n,none⟩=some (.bool false):=by rw [HT4.out.ban n (by omega),HBN.out]
 have cs:W4.cell? ⟨g,2+n,none⟩=some (.pointer none):=by rw [HT4.out.slot n (by omega),HPN.out];rfl
 have cr:W4.cell? ⟨g,0,none⟩=some (.int .i64 room):=HT4.out.room_
 have hge:¬ room≤((there ps).length:Int):=by have:=HRM.out;omega
 have hge2:decide (room≤((there ps).length:Int))=false:=decide_eq_false hge
 go_wp2_with fail
 go_cut [42] from 43 to 50 (fun v42 wc=>v42=.bool false∧Aside0 (Tab w wc g room tmo ps bs)∧Aside0 (Below W.heap.size W wc)∧Aside0 (wc.heap[W.heap.size]?=some (.cells #[.int .i64 x,.int .i64 y] 30 (0,0))))
 case first =>
  go_region_law (refine goes_ Try.func22 (by kernel_rfl) rfl #[.pointer (some ⟨g,0,none⟩)] (by rfl) rfl rfl (by (try simp only [List.map_toArray,List.map_cons,List.map_nil]);first|done|rfl) ?_;refine (Tab.Len_ (HT4.out.below (by repeat (first|(with_reducible first|exact Below.refl _ _|apply below_alloc|apply pw_below_drewN|apply below_drew1)|exact Below.refl _ _)))).mono ?_;rintro e W7 ⟨rfl,hb7⟩;refine ⟨_,rfl,?_⟩;have hm7:Below W4.heap.size W4 W7:=below_step (by repeat (first|(with_reducible first|exact Below.refl _ _|apply below_alloc|apply pw_below_drewN|apply below_drew1)|exact Below.refl _ _)) hb7;have HT7:=Aside0.mk (HT4.out.below hm7);have HB7:=Aside0.mk (below_step HB4.out hm7);have HBLK7:=Aside0.mk (blk_below HBLK4.out hm7);have cr7:=HT7.out.room_;clear hb7 hm7)
  all_goals
   go_wp2_with fail
   go_meet
   case rel=>exact ⟨rfl,HT7,HB7,HBLK7⟩
 case rest =>
  obtain ⟨rfl,HT7,HB7,HBLK7⟩:=hcut
  have hx0:wc.cell? ⟨W.heap.size,0,none⟩=some (.int .i64 x):=by rw [blk_cell HBLK7.out];rfl
  have hx1:wc.cell? ⟨W.heap.size,1,none⟩=some (.int .i64 y):=by rw [blk_cell HBLK7.out];rfl
  have cs7:wc.cell? ⟨g,2+n,none⟩=some (.pointer none):=by rw [HT7.out.slot n (by omega),HPN.out];rfl
  have fs7:=HT7.out.frz (2+n)
  have hgl:=HT7.out.lt
  have hgn:¬ g=wc.heap.size:=Nat.ne_of_lt hgl
  have hgn2:¬ wc.heap.size=g:=fun e=>hgn e.symm
  go_wp2_with fail
  go_region
  all_goals (try go_wp2_with fail)
  go_ret
  exact ⟨rfl,wc.heap.size,(HT7.out.meeting n (by omega) (met n x y now) rfl 1).after HB7.out⟩
end
end Go.Proofs.Ytpejjpecdkbleaa.Print
/-! #### MaPeers8 -/
/- peers: Meet's refusals. -/
namespace Go.Proofs.Ytpejjpecdkbleaa.Print
open Go.RowKit Go.Proofs.YtpejjpecdkbleaaW.PrintWords Go.Proofs.YtpejjpecdkbleaaW.PrintLast Go.Proofs.YtpejjpecdkbleaaW.PrintMore
set_option linter.unusedVariables false
set_option linter.unusedSimpArgs false
section
variable {w W W1 W2:World} {g:Nat} {room tmo:Int} {ps ps' ps1 ps2:Slots} {bs bs' bs1 bs2:List Bool}
set_option maxHeartbeats 1600000 in
set_option maxRecDepth 100000 in
theorem Tab.Meet_node (t:Tab w W g room tmo ps bs) (n:Int) (hn:¬ (1≤n∧n≤15)) (x y now:Int) :
  Calls Try.prog 14 #[.pointer (some ⟨g,0,none⟩),.int .i64 n,.agg #[.int .i64 x,.int .i64 y],.int .i64 now] W fun e W2=>e=.returned (.int .i64 1)∧Acted w W W2 g room tmo ps ps bs:=by
 have HT:=Aside0.mk t
 have HP:=Aside0.mk (peer_no n hn)
 clear t hn
 go_enter Try.func14,Try.ntmps14
 have hblk0:(W.alloc (.cells #[.int .i64 x,.int .i64 y] 30)).heap[W.heap.size]?=some (.cells #[.int .i64 x,.int .i64 y] 30 (0,0)):=heap_alloc_new W _
 have hb0:Below W.heap.size W (W.alloc (.cells #[.int .i64 x,.int .i64 y] 30)):=below_alloc (Below.refl W.heap.size W) _
 have hd0:=HT.out.below hb0
 have HBLK:=Aside0.mk hblk0
 have HB:=Aside0.mk hb0
 have HT0:=Aside0.mk hd0
 clear hblk0 hb0 hd0
 go_wp2_with fail
 refine (HP.out _).mono ?_
 rintro e W2 ⟨rfl,hd⟩
 have hl:=HBLK.out
 have HBLK2:=Aside0.mk (blk_below HBLK.out hd.below)
 have HB2:=Aside0.mk (below_step HB.out hd.below)
 have HT2:=Aside0.mk (HT0.out.below hd.below)
 clear hl hd HBLK HB HT0
 have hx0:W2.cell? ⟨W.heap.size,0,none⟩=some (.int .i64 x):=by rw [blk_cell HBLK2.out];rfl
 have hx1:W2.cell? ⟨W.heap.size,1,none⟩=some (.int .i64 y):=by rw [blk_cell HBLK2.out];rfl
 go_wp2_with fail
 go_ret
 exact ⟨rfl,Acted.refl HT.out HB2.out⟩
set_option maxHeartbeats 1600000 in
set_option maxRecDepth 100000 in
theorem Tab.Meet_place (t:Tab w W g room tmo ps bs) (n:Nat) (h1:1≤n) (h2:n≤15) (x y now:Int) (hc:¬ ((-1048576≤x∧x≤1048576)∧(-1048576≤y∧y≤1048576))) :
  Calls Try.prog 14 #[.pointer (some ⟨g,0,none⟩),.int .i64 n,.agg #[.int .i64 x,.int .i64 y],.int .i64 now] W fun e W2=>e=.returned (.int .i64 1)∧Acted w W W2 g room tmo ps ps bs:=by
 have HT:=Aside0.mk t
 have HP:=Aside0.mk (peer_yes n h1 h2)
 have HC:=Aside0.mk (check_no x y hc)
 clear t hc
 go_enter Try.func14,Try.ntmps14
 have hblk0:(W.alloc (.cells #[.int .i64 x,.int .i64 y] 30)).heap[W.heap.size]?=some (.cells #[.int .i64 x,.int .i64 y] 30 (0,0)):=heap_alloc_new W _
 have hb0:Below W.heap.size W (W.alloc (.cells #[.int .i64 x,.int .i64 y] 30)):=below_alloc (Below.refl W.heap.size W) _
 have hd0:=HT.out.below hb0
 have HBLK:=Aside0.mk hblk0
 have HB:=Aside0.mk hb0
 have HT0:=Aside0.mk hd0
 clear hblk0 hb0 hd0
 go_wp2_with fail
 refine (HP.out _).mono ?_
 rintro e W2 ⟨rfl,hd⟩
 have hl:=HBLK.out
 have HBLK2:=Aside0.mk (blk_below HBLK.out hd.below)
 have HB2:=Aside0.mk (below_step HB.out hd.below)
 have HT2:=Aside0.mk (HT0.out.below hd.below)
 clear hl hd HBLK HB HT0
 have hx0:W2.cell? ⟨W.heap.size,0,none⟩=some (.int .i64 x):=by rw [blk_cell HBLK2.out];rfl
 have hx1:W2.cell? ⟨W.heap.size,1,none⟩=some (.int .i64 y):=by rw [blk_cell HBLK2.out];rfl
 go_wp2_with fail
 refine (HC.out _).mono ?_
 rintro e W3 ⟨rfl,hd⟩
 have HBLK3:=Aside0.mk (blk_below HBLK2.out hd)
 have HB3:=Aside0.mk (below_step HB2.out hd)
 have HT3:=Aside0.mk (HT2.out.below hd)
 clear hd HBLK2 HB2 HT2 hx0 hx1
 go_wp2_with fail
 go_ret
 exact ⟨rfl,Acted.refl HT.out HB3.out⟩
set_option maxHeartbeats 1600000 in
set_option maxRecDepth 100000 in
theorem Tab.Meet_now (t:Tab w W g room tmo ps bs) (n:Nat) (h1:1≤n) (h2:n≤15) (x y now:Int) (hc:(-1048576≤x∧x≤1048576)∧(-1048576≤y∧y≤1048576)) (hn:¬ (0≤now∧now≤1099511627776)) :
  Calls Try.prog 14 #[.pointer (some ⟨g,0,none⟩),.int .i64 n,.agg #[.int .i64 x,.int .i64 y],.int .i64 now] W fun e W2=>e=.returned (.int .i64 1)∧Acted w W W2 g room tmo ps ps bs:=by
 have HT:=Aside0.mk t
 have HP:=Aside0.mk (peer_yes n h1 h2)
 have HC:=Aside0.mk (check_yes x y hc)
 have HK:=Aside0.mk (tick_no now hn)
 clear t hc hn
 go_enter Try.func14,Try.ntmps14
 have hblk0:(W.alloc (.cells #[.int .i64 x,.int .i64 y] 30)).heap[W.heap.size]?=some (.cells #[.int .i64 x,.int .i64 y] 30 (0,0)):=heap_alloc_new W _
 have hb0:Below W.heap.size W (W.alloc (.cells #[.int .i64 x,.int .i64 y] 30)):=below_alloc (Below.refl W.heap.size W) _
 have hd0:=HT.out.below hb0
 have HBLK:=Aside0.mk hblk0
 have HB:=Aside0.mk hb0
 have HT0:=Aside0.mk hd0
 clear hblk0 hb0 hd0
 go_wp2_with fail
 refine (HP.out _).mono ?_
 rintro e W2 ⟨rfl,hd⟩
 have hl:=HBLK.out
 have HBLK2:=Aside0.mk (blk_below HBLK.out hd.below)
 have HB2:=Aside0.mk (below_step HB.out hd.below)
 have HT2:=Aside0.mk (HT0.out.below hd.below)
 clear hl hd HBLK HB HT0
 have hx0:W2.cell? ⟨W.heap.size,0,none⟩=some (.int .i64 x):=by rw [blk_cell HBLK2.out];rfl
 have hx1:W2.cell? ⟨W.heap.size,1,none⟩=some (.int .i64 y):=by rw [blk_cell HBLK2.out];rfl
 go_wp2_with fail
 refine (HC.out _).mono ?_
 rintro e W3 ⟨rfl,hd⟩
 have HBLK3:=Aside0.mk (blk_below HBLK2.out hd)
 have HB3:=Aside0.mk (below_step HB2.out hd)
 have HT3:=Aside0.mk (HT2.out.below hd)
 clear hd HBLK2 HB2 HT2 hx0 hx1
 go_wp2_with fail
 refine (HK.out _).mono ?_
 rintro e W4 ⟨rfl,hd⟩
 have HBLK4:=Aside0.mk (blk_below HBLK3.out hd.below)
 have HB4:=Aside0.mk (below_step HB3.out hd.below)
 have HT4:=Aside0.mk (HT3.out.below hd.below)
 clear hd HBLK3 HB3 HT3
 go_wp2_with fail
 go_ret
 exact ⟨rfl,Acted.refl HT.out HB4.out⟩
set_option maxHeartbeats 1600000 in
set_option maxRecDepth 100000 in
theorem Tab.Meet_ban (t:Tab w W g room tmo ps bs) (n:Nat) (h1:1≤n) (h2:n≤15) (x y now:Int) (hc:(-1048576≤x∧x≤1048576)∧(-1048576≤y∧y≤1048576)) (hn:0≤now∧now≤1099511627776) (hb:bs.getD n false=true) :
  Calls Try.prog 14 #[.pointer (some ⟨g,0,none⟩),.int .i64 n,.agg #[.int .i64 x,.int .i64 y],.int .i64 now] W fun e W2=>e=.returned (.int .i64 10)∧Acted w W W2 g room tmo ps ps bs:=by
 have HT:=Aside0.mk t
 have HP:=Aside0.mk (peer_yes n h1 h2)
 have HC:=Aside0.mk (check_yes x y hc)
 have HK:=Aside0.mk (tick_yes now hn)
 have HBN:=Aside0.mk hb
 clear t hc hn hb
 have hnz:(n:Int) < 16:=by omega
 go_enter Try.func14,Try.ntmps14
 have hblk0:(W.alloc (.cells #[.int .i64 x,.int .i64 y] 30)).heap[W.heap.size]?=some (.cells #[.int .i64 x,.int .i64 y] 30 (0,0)):=heap_alloc_new W _
 have hb0:Below W.heap.size W (W.alloc (.cells #[.int .i64 x,.int .i64 y] 30)):=below_alloc (Below.refl W.heap.size W) _
 have hd0:=HT.out.below hb0
 have HBLK:=Aside0.mk hblk0
 have HB:=Aside0.mk hb0
 have HT0:=Aside0.mk hd0
 clear hblk0 hb0 hd0
 go_wp2_with fail
 refine (HP.out _).mono ?_
 rintro e W2 ⟨rfl,hd⟩
 have hl:=HBLK.out
 have HBLK2:=Aside0.mk (blk_below HBLK.out hd.below)
 have HB2:=Aside0.mk (below_step HB.out hd.below)
 have HT2:=Aside0.mk (HT0.out.below hd.below)
 clear hl hd HBLK HB HT0
 have hx0:W2.cell? ⟨W.heap.size,0,none⟩=some (.int .i64 x):=by rw [blk_cell HBLK2.out];rfl
 have hx1:W2.cell? ⟨W.heap.size,1,none⟩=some (.int .i64 y):=by rw [blk_cell HBLK2.out];rfl
 go_wp2_with fail
 refine (HC.out _).mono ?_
 rintro e W3 ⟨rfl,hd⟩
 have HBLK3:=Aside0.mk (blk_below HBLK2.out hd)
 have HB3:=Aside0.mk (below_step HB2.out hd)
 have HT3:=Aside0.mk (HT2.out.below hd)
 clear hd HBLK2 HB2 HT2 hx0 hx1
 go_wp2_with fail
 refine (HK.out _).mono ?_
 rintro e W4 ⟨rfl,hd⟩
 have HBLK4:=Aside0.mk (blk_below HBLK3.out hd.below)
 have HB4:=Aside0.mk (below_step HB3.out hd.below)
 have HT4:=Aside0.mk (HT3.out.below hd.below)
 clear hd HBLK3 HB3 HT3
 have cb:W4.cell? ⟨g,18+n,none⟩=some (.bool true):=by rw [HT4.out.ban n (by omega),HBN.out]
 go_wp2_with fail
 go_ret
 exact ⟨rfl,Acted.refl HT.out HB4.out⟩
set_option maxHeartbeats 1600000 in
set_option maxRecDepth 100000 in
theorem Tab.Meet_there (t:Tab w W g room tmo ps bs) (n:Nat) (h1:1≤n) (h2:n≤15) (x y now:Int) (hc:(-1048576≤x∧x≤1048576)∧(-1048576≤y∧y≤1048576)) (hn:0≤now∧now≤1099511627776) (hb:bs.getD n false=false) {b:Nat} {p:Pr} (hp:ps[n]?=some (some (b,p))) :
  Calls Try.prog 14 #[.pointer (some ⟨g,0,none⟩),.int .i64 n,.agg #[.int .i64 x,.int .i64 y],.int .i64 now] W fun e W2=>e=.returned (.int .i64 5)∧Acted w W W2 g room tmo ps ps bs:=by
 have HT:=Aside0.mk t
 have HP:=Aside0.mk (peer_yes n h1 h2)
 have HC:=Aside0.mk (check_yes x y hc)
 have HK:=Aside0.mk (tick_yes now hn)
 have HBN:=Aside0.mk hb
 have HPN:=Aside0.mk (show ps.getD n none=some (b,p) by rw [List.getD_eq_getElem?_getD,hp];rfl)
 clear t hc hn hb hp
 have hnz:(n:Int) < 16:=by omega
 go_enter Try.func14,Try.ntmps14
 have hblk0:(W.alloc (.cells #[.int .i64 x,.int .i64 y] 30)).heap[W.heap.size]?=some (.cells #[.int .i64 x,.int .i64 y] 30 (0,0)):=heap_alloc_new W _
 have hb0:Below W.heap.size W (W.alloc (.cells #[.int .i64 x,.int .i64 y] 30)):=below_alloc (Below.refl W.heap.size W) _
 have hd0:=HT.out.below hb0
 have HBLK:=Aside0.mk hblk0
 have HB:=Aside0.mk hb0
 have HT0:=Aside0.mk hd0
 clear hblk0 hb0 hd0
 go_wp2_with fail
 refine (HP.out _).mono ?_
 rintro e W2 ⟨rfl,hd⟩
 have hl:=HBLK.out
 have HBLK2:=Aside0.mk (blk_below HBLK.out hd.below)
 have HB2:=Aside0.mk (below_step HB.out hd.below)
 have HT2:=Aside0.mk (HT0.out.below hd.below)
 clear hl hd HBLK HB HT0
 have hx0:W2.cell? ⟨W.heap.size,0,none⟩=some (.int .i64 x):=by rw [blk_cell HBLK2.out];rfl
 have hx1:W2.cell? ⟨W.heap.size,1,none⟩=some (.int .i64 y):=by rw [blk_cell HBLK2.out];rfl
 go_wp2_with fail
 refine (HC.out _).mono ?_
 rintro e W3 ⟨rfl,hd⟩
 have HBLK3:=Aside0.mk (blk_below HBLK2.out hd)
 have HB3:=Aside0.mk (below_step HB2.out hd)
 have HT3:=Aside0.mk (HT2.out.below hd)
 clear hd HBLK2 HB2 HT2 hx0 hx1
 go_wp2_with fail
 refine (HK.out _).mono ?_
 rintro e W4 ⟨rfl,hd⟩
 have HBLK4:=Aside0.mk (blk_below HBLK3.out hd.below)
 have HB4:=Aside0.mk (below_step HB3.out hd.below)
 have HT4:=Aside0.mk (HT3.out.below hd.below)
 clear hd HBLK3 HB3 HT3
 have cb:W4.cell? ⟨g,18+n,none⟩=some (.bool false):=by rw [HT4.out.ban n (by omega),HBN.out]
 have cs:W4.cell? ⟨g,2+n,none⟩=some (.pointer (some ⟨b,0,none⟩)):=by rw [HT4.out.slot n (by omega),HPN.out];rfl
 go_wp2_with fail
 go_ret
 exact ⟨rfl,Acted.refl HT.out HB4.out⟩
set_option maxHeartbeats 1600000 in
set_option maxRecDepth 100000 in
theorem Tab.Meet_full (t:Tab w W g room tmo ps bs) (n:Nat) (h1:1≤n) (h2:n≤15) (x y now:Int) (hc:(-1048576≤x∧x≤1048576)∧(-1048576≤y∧y≤1048576)) (hn:0≤now∧now≤1099511627776) (hb:bs.getD n false=false) (hp:ps.getD n none=none) (hr:room≤((there ps).length:Int)) :
  Calls Try.prog 14 #[.pointer (some ⟨g,0,none⟩),.int .i64 n,.agg #[.int .i64 x,.int .i64 y],.int .i64 now] W fun e W2=>e=.returned (.int .i64 6)∧Acted w W W2 g room tmo ps ps bs:=by
 have HT:=Aside0.mk t
 have HP:=Aside0.mk (peer_yes n h1 h2)
 have HC:=Aside0.mk (check_yes x y hc)
 have HK:=Aside0.mk (tick_yes now hn)
 have HBN:=Aside0.mk hb
 have HPN:=Aside0.mk hp
 have HRM:=Aside0.mk hr
 clear t hc hn hb hp hr
 have hnz:(n:Int) < 16:=by omega
 go_enter Try.func14,Try.ntmps14
 have hblk0:(W.alloc (.cells #[.int .i64 x,.int .i64 y] 30)).heap[W.heap.size]?=some (.cells #[.int .i64 x,.int .i64 y] 30 (0,0)):=heap_alloc_new W _
 have hb0:Below W.heap.size W (W.alloc (.cells #[.int .i64 x,.int .i64 y] 30)):=below_alloc (Below.refl W.heap.size W) _
 have hd0:=HT.out.below hb0
 have HBLK:=Aside0.mk hblk0
 have HB:=Aside0.mk hb0
 have HT0:=Aside0.mk hd0
 clear hblk0 hb0 hd0
 go_wp2_with fail
 refine (HP.out _).mono ?_
 rintro e W2 ⟨rfl,hd⟩
 have hl:=HBLK.out
 have HBLK2:=Aside0.mk (blk_below HBLK.out hd.below)
 have HB2:=Aside0.mk (below_step HB.out hd.below)
 have HT2:=Aside0.mk (HT0.out.below hd.below)
 clear hl hd HBLK HB HT0
 have hx0:W2.cell? ⟨W.heap.size,0,none⟩=some (.int .i64 x):=by rw [blk_cell HBLK2.out];rfl
 have hx1:W2.cell? ⟨W.heap.size,1,none⟩=some (.int .i64 y):=by rw [blk_cell HBLK2.out];rfl
 go_wp2_with fail
 refine (HC.out _).mono ?_
 rintro e W3 ⟨rfl,hd⟩
 have HBLK3:=Aside0.mk (blk_below HBLK2.out hd)
 have HB3:=Aside0.mk (below_step HB2.out hd)
 have HT3:=Aside0.mk (HT2.out.below hd)
 clear hd HBLK2 HB2 HT2 hx0 hx1
 go_wp2_with fail
 refine (HK.out _).mono ?_
 rintro e W4 ⟨rfl,hd⟩
 have HBLK4:=Aside0.mk (blk_below HBLK3.out hd.below)
 have HB4:=Aside0.mk (below_step HB3.out hd.below)
 have HT4:=Aside0.mk (HT3.out.below hd.below)
 clear hd HBLK3 HB3 HT3
 have cb:W4.cell? ⟨g,18+n,none⟩=some (.bool false):=by rw [HT4.out.ban n (by omega),HBN.out]
 have cs:W4.cell? ⟨g,2+n,none⟩=some (.pointer none):=by rw [HT4.out.slot n (by omega),HPN.out];rfl
 have cr:W4.cell? ⟨g,0,none⟩=some (.int .i64 room):=HT4.out.room_
 have hge:room≤((there ps).length:Int):=HRM.out
 have hge2:decide (room≤((there ps).length:Int))=true:=decide_eq_true hge
 go_wp2_with fail
 go_cut [42] from 43 to 50 (fun v42 wc=>v42=.bool true∧Aside0 (Tab w wc g room tmo ps bs)∧Aside0 (Below W.heap.size W wc)∧Aside0 (wc.heap[W.heap.size]?=some (.cells #[.int .i64 x,.int .i64 y] 30 (0,0))))
 case first =>
  go_region_law (refine goes_ Try.func22 (by kernel_rfl) rfl #[.pointer (some ⟨g,0,none⟩)] (by rfl) rfl rfl (by (try simp only [List.map_toArray,List.map_cons,List.map_nil]);first|done|rfl) ?_;refine (Tab.Len_ (HT4.out.below (by repeat (first|(with_reducible first|exact Below.refl _ _|apply below_alloc|apply pw_below_drewN|apply below_drew1)|exact Below.refl _ _)))).mono ?_;rintro e W7 ⟨rfl,hb7⟩;refine ⟨_,rfl,?_⟩;have hm7:Below W4.heap.size W4 W7:=below_step (by repeat (first|(with_reducible first|exact Below.refl _ _|apply below_alloc|apply pw_below_drewN|apply below_drew1)|exact Below.refl _ _)) hb7;have HT7:=Aside0.mk (HT4.out.below hm7);have HB7:=Aside0.mk (below_step HB4.out hm7);have HBLK7:=Aside0.mk (blk_below HBLK4.out hm7);have cr7:=HT7.out.room_;clear hb7 hm7)
  all_goals
   go_wp2_with fail
   go_meet
   case rel=>exact ⟨rfl,HT7,HB7,HBLK7⟩
 case rest =>
  obtain ⟨rfl,HT7,HB7,HBLK7⟩:=hcut
  go_wp2_with fail
  go_ret
  exact ⟨rfl,Acted.refl HT.out HB7.out⟩
end
end Go.Proofs.Ytpejjpecdkbleaa.Print
/-! #### MaPeers9 -/
/- peers: Expire. -/
namespace Go.Proofs.Ytpejjpecdkbleaa.Print
open Go.RowKit Go.Proofs.YtpejjpecdkbleaaW.PrintWords Go.Proofs.YtpejjpecdkbleaaW.PrintLast Go.Proofs.YtpejjpecdkbleaaW.PrintMore
set_option linter.unusedVariables false
set_option linter.unusedSimpArgs false
def lateB (now tmo:Int) (p:Pr):Bool:=decide (tmo < now - p.f6)
def expO (now tmo:Int) (x:Option (Nat×Pr)):Option (Nat×Pr):=match x with
 | some bp=>if lateB now tmo bp.2=true then none else some bp
 | none=>none
def expI (now tmo:Int) (ps:Slots) (i:Nat):Slots:=(ps.take i).map (expO now tmo) ++ ps.drop i
def goneI (now tmo:Int) (ps:Slots):Nat→List Int
 | 0=>[]
 | i+1=>goneI now tmo ps i ++ (match ps[i]? with
  | some (some bp)=>if lateB now tmo bp.2=true then [(i:Int)] else []
  | _=>[])
theorem goneI_len (now tmo:Int) (ps:Slots):∀ i,(goneI now tmo ps i).length≤i
 | 0=>Nat.le_refl _
 | i+1=>by
  have:=goneI_len now tmo ps i
  unfold goneI
  rw [List.length_append]
  split
  ·
   split <;> simp <;> omega
  ·
   simp
   omega
section
variable {w W W1 W2:World} {g:Nat} {room tmo now:Int} {ps ps' ps1 ps2:Slots} {bs bs' bs1 bs2:List Bool}
theorem expI_get (ps:Slots) (i j:Nat):(expI now tmo ps i)[j]?=if j < i then (ps[j]?).map (expO now tmo) else ps[j]?:=by
 unfold expI
 by_cases h:j < i
 ·
  rw [if_pos h]
  by_cases hl:j < ps.length
  ·
   rw [List.getElem?_append_left (by rw [List.length_map,List.length_take];omega),List.getElem?_map,List.getElem?_take_of_lt h]
  ·
   rw [List.getElem?_append_right (by rw [List.length_map,List.length_take];omega),List.getElem?_drop,List.getElem?_eq_none (by rw [List.length_map,List.length_take];omega),List.getElem?_eq_none (by omega)]
   rfl
 ·
  rw [if_neg h]
  by_cases hl:i≤ps.length
  ·
   rw [List.getElem?_append_right (by rw [List.length_map,List.length_take];omega),List.length_map,List.length_take,List.getElem?_drop]
   congr 1
   omega
  ·
   rw [List.getElem?_eq_none (by rw [List.length_append,List.length_map,List.length_take,List.length_drop];omega),List.getElem?_eq_none (by omega)]
theorem expI_len (ps:Slots) (i:Nat):(expI now tmo ps i).length=ps.length:=by
 unfold expI
 rw [List.length_append,List.length_map,List.length_take,List.length_drop]
 omega
theorem expI_all (h:ps.length=16):expI now tmo ps 16=ps.map (expO now tmo):=by
 unfold expI
 rw [List.take_of_length_le (Nat.le_of_eq h),List.drop_eq_nil_of_le (Nat.le_of_eq h),List.append_nil]
theorem expI_stay {i:Nat} {x:Option (Nat×Pr)} (h:ps[i]?=some x) (hx:expO now tmo x=x):expI now tmo ps (i+1)=expI now tmo ps i:=by
 apply List.ext_getElem?
 intro j
 rw [expI_get,expI_get]
 by_cases h1:j < i
 ·
  rw [if_pos h1,if_pos (by omega)]
 ·
  rw [if_neg h1]
  by_cases h2:j=i
  ·
   subst h2
   rw [if_pos (by omega),h,Option.map_some,hx]
  ·
   rw [if_neg (by omega)]
theorem expI_late {i b:Nat} {p:Pr} (h:ps[i]?=some (some (b,p))) (hx:lateB now tmo p=true):expI now tmo ps (i+1)=(expI now tmo ps i).set i none:=by
 have hl:i < ps.length:=(List.getElem?_eq_some_iff.1 h).1
 apply List.ext_getElem?
 intro j
 by_cases h2:j=i
 ·
  subst h2
  rw [List.getElem?_set_self (by rw [expI_len];exact hl),expI_get,if_pos (by omega),h,Option.map_some]
  simp [expO,hx]
 ·
  rw [List.getElem?_set_ne (Ne.symm h2),expI_get,expI_get]
  by_cases h1:j < i
  ·
   rw [if_pos h1,if_pos (by omega)]
  ·
   rw [if_neg h1,if_neg (by omega)]
theorem goneI_stay {i:Nat} {x:Option (Nat×Pr)} (h:ps[i]?=some x) (hx:expO now tmo x=x):goneI now tmo ps (i+1)=goneI now tmo ps i:=by
 conv=>lhs;unfold goneI
 rw [h]
 cases x with
 | none=>simp
 | some bp =>
  simp only [expO] at hx
  split at hx
  ·
   cases hx
  ·
   rename_i hn
   simp [hn]
theorem goneI_late {i b:Nat} {p:Pr} (h:ps[i]?=some (some (b,p))) (hx:lateB now tmo p=true):goneI now tmo ps (i+1)=goneI now tmo ps i ++ [(i:Int)]:=by
 conv=>lhs;unfold goneI
 rw [h]
 simp [hx]
theorem expI_foot (i k:Nat) (hk:Foot g (expI now tmo ps i) k):Foot g ps k:=by
 rcases hk with rfl|⟨j,q,hj⟩
 ·
  exact .inl rfl
 ·
  rw [expI_get] at hj
  by_cases h:j < i
  ·
   rw [if_pos h] at hj
   match hx:ps[j]? with
   | none=>rw [hx] at hj;exact absurd hj (by simp)
   | some none=>rw [hx] at hj;exact absurd hj (by simp [expO])
   | some (some (b,p)) =>
    rw [hx] at hj
    simp only [expO,Option.map_some,Option.some.injEq] at hj
    split at hj
    ·
     cases hj
    ·
     simp only [Option.some.injEq,Prod.mk.injEq] at hj
     exact .inr ⟨j,p,by rw [hx,hj.1]⟩
  ·
   rw [if_neg h] at hj
   exact .inr ⟨j,q,hj⟩
theorem Acted.drewN (a:Acted w W W2 g room tmo ps ps' bs') (n:Nat):Acted w W (W2.drewN n) g room tmo ps ps' bs':=⟨a.tab.drewN n,a.kept.drewN n⟩
theorem foot_lt (t:Tab w W g room tmo ps bs) (k:Nat) (hk:Foot g ps k):k < W.heap.size:=by
 rcases hk with rfl|⟨i,p,hi⟩
 ·
  exact t.lt
 ·
  exact blk_lt (t.node i k p hi).1
theorem _root_.Go.Proofs.YtpejjpecdkbleaaW.PrintWords.Kept.lately {S:Nat→Prop} (k:Kept W W1 S) (hb:Below W.heap.size W1 W2):Kept W W2 S:=⟨Nat.le_trans k.1 hb.size,fun i hi hn=>(hb.block i hi).trans (k.2 i hi hn)⟩
/-- Blocks that are new since W were written. -/
theorem Acted.lately (a:Acted w W W1 g room tmo ps ps1 bs1) (t:Tab w W g room tmo ps bs) (hf:∀ k,Foot g ps1 k→Foot g ps k) (hb:Below W.heap.size W1 W2):Acted w W W2 g room tmo ps ps1 bs1 :=
 ⟨⟨(hb.block g t.lt).trans a.tab.blk,a.tab.lp,a.tab.lb,fun i b p h=>⟨(hb.block b (foot_lt t b (hf b (.inr ⟨i,p,h⟩)))).trans (a.tab.node i b p h).1,(a.tab.node i b p h).2⟩,a.tab.inj,a.tab.ge,below_weaken a.tab.bel t.bel.size hb⟩,a.kept.lately hb⟩
/-- Times that are times. -/
def Timed (ps:Slots):Prop:=∀ (i b:Nat) (p:Pr),ps[i]?=some (some (b,p))→(0≤p.f6∧p.f6≤1099511627776)∧0≤p.f7∧p.f7≤1099511627776
set_option maxHeartbeats 1600000 in
set_option maxRecDepth 100000 in
theorem Tab.Expire_yes (t:Tab w W g room tmo ps bs) (ht:Timed ps) (hn:0≤now∧now≤1099511627776):Calls Try.prog 18 #[.pointer (some ⟨g,0,none⟩),.int .i64 now] W fun e W2=>∃ v,e=.returned v∧Kd.R (Kd.int .i64) 3 W2 W.heap.size (fun k=>k≠g) v (goneI now tmo ps 16)∧Acted w W W2 g room tmo ps (ps.map (expO now tmo)) bs:=by
 have HT:=Aside0.mk t
 have HK:=Aside0.mk (tick_yes now hn)
 have HN:=Aside0.mk hn
 have HTM:=Aside0.mk ht
 clear t hn ht
 go_enter Try.func18,Try.ntmps18
 go_wp2_with fail
 refine (HK.out _).mono ?_
 rintro e W3 ⟨rfl,⟨m3,rfl⟩⟩
 have HA0:=Aside0.mk (show Acted w W (W.drewN m3) g room tmo ps ps bs from Acted.refl HT.out (pw_below_drewN (Below.refl _ _) m3))
 go_wp2_with (refine wpList_load_mid rfl 83 (.tmp 17) rfl g 2 rfl (ps.map ptrOf) _ HA0.out.tab.row Try.underlying83 rfl (info83.trans (by rw [HT.out.sixteen])) ?_)
 go_loopg [5,19] 16 (fun gg v5 v19 wr=>∃ (i:Nat),v19=.int .i64 i∧Aside0 (i+gg=16)∧Aside0 (Kd.R (Kd.int .i64) 3 wr W.heap.size (fun k=>k≠g) v5 (goneI now tmo ps i))∧Aside0 (Acted w W wr g room tmo ps (expI now tmo ps i) bs)∧Aside0 (Kept W wr (fun k=>k=g)))
 case atStart=>exact ⟨0,rfl,⟨rfl⟩,⟨Kd.R_nil _ _ _ _ _⟩,⟨HA0.out⟩,⟨Kept.of_below (pw_below_drewN (Below.refl _ _) m3) _⟩⟩
 case round =>
  clear HA0
  obtain ⟨i,rfl,HG,HO,HA,HKP⟩:=hrel
  by_cases hlt:(i:Int) < 16
  ·
   obtain ⟨gg,rfl⟩:∃ m,gk=m+1:=⟨gk - 1,by have:=HG.out;omega⟩
   have hi:i < 16:=by omega
   have hil:i < ps.length:=by rw [HT.out.lp];exact hi
   cases hp:ps[i]? with
   | none=>rw [List.getElem?_eq_none_iff] at hp;omega
   | some x =>
    have hx:(ps.map ptrOf)[i]?=some (ptrOf x):=by rw [List.getElem?_map,hp];rfl
    have hix:=index16 (ps.map ptrOf) HT.out.sixteen i hi _ hx
    clear hx hil
    cases x with
    | none =>
     simp only [ptrOf] at hix
     have HP:=Aside0.mk hp
     clear hp
     go_wp2_with fail
     go_quiet (fail)
     go_wp2_with fail
     go_roundg gg
     case measure=>omega
     case rel=>exact ⟨i+1,rfl,⟨by have:=HG.out;omega⟩,⟨by rw [goneI_stay HP.out rfl];exact HO.out⟩,⟨by rw [expI_stay HP.out rfl];exact HA.out.drewN nq⟩,⟨HKP.out.drewN nq⟩⟩
    | some bp =>
     obtain ⟨b,p⟩:=bp
     simp only [ptrOf] at hix
     have hpr:(expI now tmo ps i)[i]?=some (some (b,p)):=by rw [expI_get,if_neg (by omega),hp]
     have HS:=Aside0.mk (show (expI now tmo ps i).getD i none=some (b,p) by rw [List.getD_eq_getElem?_getD,hpr];rfl)
     have c6:wr.cell? ⟨b,7,none⟩=some (.int .i64 p.f6):=HA.out.tab.pcell hpr 7
     have c1:wr.cell? ⟨g,1,none⟩=some (.int .i64 tmo):=HA.out.tab.tmo_
     have hb6:=(HTM.out i b p hp).1
     have hov:IntKind.i64.wrap (now - p.f6)=now - p.f6:=IntWalk.i64_in _ (by have:=HN.out;omega)
     have HP:=Aside0.mk hp
     clear hp hpr hb6
     by_cases hL:lateB now tmo p=true
     ·
      have hd:decide (tmo < now - p.f6)=true:=hL
      have HL:=Aside0.mk hL
      clear hL
      have c2:wr.cell? ⟨g,2+i,none⟩=some (.pointer (some ⟨b,0,none⟩)):=by rw [HA.out.tab.slot i hi,HS.out];rfl
      have f2:wr.frozen? ⟨g,2+i,none⟩=false:=HA.out.tab.frz (2+i)
      go_wp2_with fail
      go_quiet (fail)
      have HA2:=Aside0.mk ((HA.out.tab.drewN nq).gone hi ⟨0,rfl⟩)
      have HA3:=Aside0.mk (show Acted w W ((wr.drewN nq).setCell ⟨g,2+i,none⟩ (.pointer none)) g room tmo ps (expI now tmo ps (i+1)) bs from by rw [expI_late HP.out HL.out];exact ⟨HA2.out.tab,HA.out.kept.then_ HA2.out.kept (fun k hk=>.inl (expI_foot i k hk))⟩)
      have HK3:=Aside0.mk (show Kept W ((wr.drewN nq).setCell ⟨g,2+i,none⟩ (.pointer none)) (fun k=>k=g) from (HKP.out.drewN nq).setCell (.inl rfl) _)
      have HO3:=Aside0.mk (Kd.R_far (p:=⟨g,2+i,none⟩) (Kd.R_drewN HO.out nq) (fun _ h=>h) (.pointer none))
      clear HA2 HA HKP HO
      have HF3:=Aside0.mk (show ∀ k,W.heap.size≤k→k≠g from fun k hk e=>by have:=HT.out.lt;omega)
      have HB3:=Aside0.mk (show Below W.heap.size W W from Below.refl _ _)
      have HS3:=Aside0.mk (show W.heap.size≤((wr.drewN nq).setCell ⟨g,2+i,none⟩ (.pointer none)).heap.size from HK3.out.1)
      go_wp2_with (first
       | ((with_reducible refine gate_builtin (b:=.append) (xs:=#[.tmp 43,.tmp 45]) rfl ?_);at_builtin;refine Kd.R_append (Kd.int .i64) (w0:=(wr.drewN nq).setCell ⟨g,2+i,none⟩ (.pointer none)) W.heap.size rfl (.tmp 43) (.tmp 45) 22 3 (.int .i64 0) 8 rfl Try.underlying22 info3 rfl (by decide) (by omega) _ (goneI now tmo ps i) (i:Int) [.int .i64 i] (fun k=>k≠g) (fun _=>False) rfl (by rw [show ((wr.drewN nq).setCell ⟨g,2+i,none⟩ (.pointer none)).heap.size=wr.heap.size by simp [World.setCell]];rfl) ?aP (fun _ hk=>hk.elim) ?aF ?aO ?aB ?aS ?aL ?_;(case aP=>exact rfl);(case aF=>exact fun k hk=>HF3.out k (Nat.le_trans HS3.out hk));(case aO=>exact HO3.out);(case aB=>exact Below.refl _ _);(case aS=>exact HS3.out);(case aL=>have h1:=goneI_len now tmo ps i;omega);intro v13 w7 ho hb hg hat;have HO7:=Aside0.mk ho;have HB7:=Aside0.mk hb;have HG7:=Aside0.mk hg;clear ho hb hg hat HO3))
      go_roundg gg
      case measure=>omega
      case rel =>
       refine ⟨i+1,rfl,⟨by have:=HG.out;omega⟩,⟨by rw [goneI_late HP.out HL.out];exact HO7.out⟩,⟨?_⟩,⟨?_⟩⟩
       ·
        exact HA3.out.lately HT.out (fun k hk=>expI_foot (i+1) k hk) HB7.out
       ·
        exact HK3.out.lately HB7.out
     ·
      have hd:decide (tmo < now - p.f6)=false:=by
       unfold lateB at hL
       simpa using hL
      have HL:=Aside0.mk hL
      clear hL
      go_wp2_with fail
      go_quiet (fail)
      go_wp2_with fail
      go_roundg gg
      case measure=>omega
      case rel=>exact ⟨i+1,rfl,⟨by have:=HG.out;omega⟩,⟨by rw [goneI_stay HP.out (by simp only [expO];rw [if_neg HL.out])];exact HO.out⟩,⟨by rw [expI_stay HP.out (by simp only [expO];rw [if_neg HL.out])];exact HA.out.drewN nq⟩,⟨HKP.out.drewN nq⟩⟩
  ·
   obtain rfl:i=16:=by have:=HG.out;omega
   obtain ⟨A3,n3,hv⟩:=Kd.R_slice HO.out
   subst hv
   go_wp2_with fail
   go_ret
   exact ⟨_,rfl,HO.out,by rw [← expI_all HT.out.lp];exact HA.out⟩
theorem Tab.Expire_bad (t:Tab w W g room tmo ps bs) (hn:¬ (0≤now∧now≤1099511627776)):Calls Try.prog 18 #[.pointer (some ⟨g,0,none⟩),.int .i64 now] W fun e W2=>e=.returned (.slice none 0 0)∧Acted w W W2 g room tmo ps ps bs:=by
 have HT:=Aside0.mk t
 have HK:=Aside0.mk (tick_no now hn)
 clear t hn
 go_enter Try.func18,Try.ntmps18
 go_wp2_with fail
 refine (HK.out _).mono ?_
 rintro e W3 ⟨rfl,⟨m3,rfl⟩⟩
 go_wp2_with fail
 go_ret
 exact ⟨rfl,Acted.refl HT.out (pw_below_drewN (Below.refl _ _) m3)⟩
end
end Go.Proofs.Ytpejjpecdkbleaa.Print
/-! #### MaPeers10 -/
/- peers: a nil table. -/
namespace Go.Proofs.Ytpejjpecdkbleaa.Print
open Go.RowKit Go.Proofs.YtpejjpecdkbleaaW.PrintWords Go.Proofs.YtpejjpecdkbleaaW.PrintLast Go.Proofs.YtpejjpecdkbleaaW.PrintMore
set_option linter.unusedVariables false
set_option linter.unusedSimpArgs false
end Go.Proofs.Ytpejjpecdkbleaa.Print
/-! #### MaPeers11 -/
/- peers: a table as a list of peers; every act, whatever its arguments. -/
namespace Go.Proofs.Ytpejjpecdkbleaa.Print
open Go.RowKit Go.Proofs.YtpejjpecdkbleaaW.PrintWords Go.Proofs.YtpejjpecdkbleaaW.PrintLast Go.Proofs.YtpejjpecdkbleaaW.PrintMore
set_option linter.unusedVariables false
set_option linter.unusedSimpArgs false
abbrev PM:=List (Option Pr)
def absP (ps:Slots):PM:=ps.map (Option.map (·.2))
/-- What always holds of a table. -/
structure InvM (m:PM) (bs:List Bool):Prop where
 len:m.length=16
 lb:bs.length=16
 node:∀ (i:Nat) (p:Pr),m[i]?=some (some p)→p.f0=(i:Int)∧1≤i∧(0≤p.f6∧p.f6≤1099511627776)∧0≤p.f7∧p.f7≤1099511627776
 ban:∀ i:Nat,bs[i]?=some true→m[i]?=some none
def FootT (W:World) (k:Nat):Prop:=∃ cells t,W.heap[k]?=some (.cells cells t (0,0))∧(t=33∨t=85)
structure PT (w W:World) (g:Nat) (room tmo:Int) (m:PM) (bs:List Bool):Prop where
 tab:∃ ps,Tab w W g room tmo ps bs∧absP ps=m
 inv:InvM m bs
/-- What an act leaves. -/
structure Did (w W W2:World) (g:Nat) (room tmo:Int) (m:PM) (bs:List Bool):Prop where
 pt:PT w W2 g room tmo m bs
 kept:Kept W W2 (FootT W)
section
variable {w W W1 W2:World} {g:Nat} {room tmo now:Int} {ps ps':Slots} {bs bs':List Bool} {m m':PM}
theorem Tab.footT (t:Tab w W g room tmo ps bs) (k:Nat) (hk:Foot g ps k):FootT W k:=by
 rcases hk with rfl|⟨i,p,hi⟩
 ·
  exact ⟨_,_,t.blk,.inr rfl⟩
 ·
  exact ⟨_,_,(t.node i k p hi).1,.inl rfl⟩
theorem Acted.did (a:Acted w W W2 g room tmo ps ps' bs') (t:Tab w W g room tmo ps bs) (hm:absP ps'=m') (hi:InvM m' bs'):Did w W W2 g room tmo m' bs':=⟨⟨⟨ps',a.tab,hm⟩,hi⟩,a.kept.mono (t.footT)⟩
theorem PT.bel (t:PT w W g room tmo m bs):Below w.heap.size w W:=by
 obtain ⟨⟨ps,h,_⟩,_⟩:=t
 exact h.bel
theorem PT.below (t:PT w W g room tmo m bs) (hb:Below W.heap.size W W2):PT w W2 g room tmo m bs:=by
 obtain ⟨⟨ps,h,he⟩,hi⟩:=t
 exact ⟨⟨ps,h.below hb,he⟩,hi⟩
/-- Rows of other types stay where they are. -/
theorem rows_foot {α:Type} {d:Kd α} {e:Nat} {base:Nat} {ok:Nat→Prop} {v:Value} {xs:List α} (h:Kd.R d e W base ok v xs) (hk:Kept W W2 (FootT W)) (ht:∀ q,q∈e :: d.E→q≠33∧q≠85):Kd.R d e W2 base ok v xs :=
 Kd.R_mono (Kd.R_move (Kd.R_bound h) (fun k hk1=>hk.2 k hk1.2.2.1 (by
  obtain ⟨_,_,_,q,hq,cells,hc⟩:=hk1
  rintro ⟨cells',t,hc',ht'⟩
  rw [hc] at hc'
  injection hc' with hc'
  injection hc' with _ e2
  rcases ht' with h1|h1
  ·
   exact (ht q hq).1 (e2.trans h1)
  ·
   exact (ht q hq).2 (e2.trans h1)))) (fun _ hk=>hk.1)
theorem absP_set (ps:Slots) (n b:Nat) (p:Pr):absP (ps.set n (some (b,p)))=(absP ps).set n (some p):=by
 unfold absP
 rw [List.map_set]
 rfl
theorem absP_none (ps:Slots) (n:Nat):absP (ps.set n none)=(absP ps).set n none:=by
 unfold absP
 rw [List.map_set]
 rfl
theorem absP_some {n:Nat} {p:Pr} (h:(absP ps)[n]?=some (some p)):∃ b,ps[n]?=some (some (b,p)):=by
 unfold absP at h
 rw [List.getElem?_map] at h
 match hx:ps[n]? with
 | none=>rw [hx] at h;cases h
 | some none=>rw [hx] at h;cases h
 | some (some (b,q)) =>
  rw [hx] at h
  simp only [Option.map_some,Option.some.injEq] at h
  exact ⟨b,by rw [h]⟩
theorem absP_no {n:Nat} (h:(absP ps).getD n none=none):ps.getD n none=none:=by
 unfold absP at h
 rw [List.getD_eq_getElem?_getD,List.getElem?_map] at h
 rw [List.getD_eq_getElem?_getD]
 match hx:ps[n]? with
 | none=>rfl
 | some none=>rfl
 | some (some (b,q)) =>
  rw [hx] at h
  cases h
theorem absP_there (ps:Slots):there ps=(absP ps).filterMap id:=by
 unfold there absP
 rw [List.filterMap_map]
 rfl
/-- A peer that is there. -/
def atM (m:PM) (n:Int):Option Pr:=if 1≤n∧n≤15 then m.getD n.toNat none else none
theorem atM_some {n:Int} {p:Pr} (h:atM m n=some p):∃ k:Nat,n=(k:Int)∧1≤k∧k≤15∧m[k]?=some (some p):=by
 unfold atM at h
 split at h
 ·
  rename_i hn
  refine ⟨n.toNat,by omega,by omega,by omega,?_⟩
  rw [List.getD_eq_getElem?_getD] at h
  match hx:m[n.toNat]? with
  | none=>rw [hx] at h;cases h
  | some none=>rw [hx] at h;cases h
  | some (some q) =>
   rw [hx] at h
   simp only [Option.getD_some,Option.some.injEq] at h
   rw [h]
 ·
  cases h
theorem atM_none {n:Int} (h:atM m n=none):¬ (1≤n∧n≤15)∨m.getD n.toNat none=none:=by
 unfold atM at h
 split at h
 ·
  exact .inr h
 ·
  rename_i hn
  exact .inl hn
theorem atM_not {n:Int} (hm:absP ps=m) (h:atM m n=none):¬ (1≤n∧n≤15)∨ps.getD n.toNat none=none:=by
 rcases atM_none h with h|h
 ·
  exact .inl h
 ·
  subst hm
  exact .inr (absP_no h)
/-! ### What an act makes of it -/
def setM (m:PM) (n:Int) (f:Pr→Pr):PM:=match atM m n with
 | some p=>m.set n.toNat (some (f p))
 | none=>m
def withC (m:PM) (n:Int):Int:=match atM m n with
 | some _=>0
 | none=>4
theorem set_get {α:Type} {m:List α} {n:Nat} {x:α} (i:Nat) (y:α) (h:(m.set n x)[i]?=some y):(i=n∧y=x)∨(i≠n∧m[i]?=some y):=by
 by_cases hin:i=n
 ·
  subst hin
  by_cases hl:i < m.length
  ·
   rw [List.getElem?_set_self hl] at h
   exact .inl ⟨rfl,(Option.some.inj h).symm⟩
  ·
   rw [List.getElem?_eq_none (by rw [List.length_set];omega)] at h
   cases h
 ·
  rw [List.getElem?_set_ne (Ne.symm hin)] at h
  exact .inr ⟨hin,h⟩
theorem InvM.put (hi:InvM m bs) {n:Nat} (h1:1≤n) {p:Pr} (hp:p.f0=(n:Int)∧(0≤p.f6∧p.f6≤1099511627776)∧0≤p.f7∧p.f7≤1099511627776) (hb:bs.getD n false=false):InvM (m.set n (some p)) bs:=by
 refine ⟨by rw [List.length_set];exact hi.len,hi.lb,fun i q hq=>?_,fun i hbi=>?_⟩
 ·
  rcases set_get i _ hq with ⟨rfl,e⟩|⟨_,hq⟩
  ·
   cases e
   exact ⟨hp.1,h1,hp.2.1,hp.2.2⟩
  ·
   exact hi.node i q hq
 ·
  by_cases hin:i=n
  ·
   subst hin
   rw [List.getD_eq_getElem?_getD,hbi] at hb
   cases hb
  ·
   rw [List.getElem?_set_ne (Ne.symm hin)]
   exact hi.ban i hbi
theorem InvM.drop (hi:InvM m bs) (n:Nat):InvM (m.set n none) bs:=by
 refine ⟨by rw [List.length_set];exact hi.len,hi.lb,fun i q hq=>?_,fun i hbi=>?_⟩
 ·
  rcases set_get i _ hq with ⟨rfl,e⟩|⟨_,hq⟩
  ·
   cases e
  ·
   exact hi.node i q hq
 ·
  have:=hi.ban i hbi
  by_cases hin:i=n
  ·
   subst hin
   rw [List.getElem?_set_self (List.getElem?_eq_some_iff.1 this).1]
  ·
   rw [List.getElem?_set_ne (Ne.symm hin)]
   exact this
theorem InvM.banned (hi:InvM m bs) {n:Nat} (hn:n < 16):InvM (m.set n none) (bs.set n true):=by
 refine ⟨by rw [List.length_set];exact hi.len,by rw [List.length_set];exact hi.lb,(hi.drop n).node,fun i hbi=>?_⟩
 rcases set_get i _ hbi with ⟨rfl,_⟩|⟨_,hbi⟩
 ·
  rw [List.getElem?_set_self (by rw [hi.len];exact hn)]
 ·
  exact (hi.drop n).ban i hbi
theorem InvM.free (hi:InvM m bs) {n:Nat} {p:Pr} (h:m[n]?=some (some p)):bs.getD n false=false:=by
 rw [List.getD_eq_getElem?_getD]
 match hx:bs[n]? with
 | none=>rfl
 | some false=>rfl
 | some true =>
  have:=hi.ban n hx
  rw [h] at this
  cases this
theorem InvM.upd (hi:InvM m bs) {n:Nat} {p p':Pr} (h:m[n]?=some (some p)) (h0:p'.f0=p.f0) (h6:0≤p'.f6∧p'.f6≤1099511627776) (h7:0≤p'.f7∧p'.f7≤1099511627776):InvM (m.set n (some p')) bs:=by
 have:=hi.node n p h
 exact hi.put this.2.1 ⟨h0.trans this.1,h6,h7⟩ (hi.free h)
theorem timed_of (hi:InvM m bs) (hm:absP ps=m):Timed ps:=by
 intro i b p h
 have:m[i]?=some (some p):=by
  subst hm
  unfold absP
  rw [List.getElem?_map,h]
  rfl
 exact (hi.node i p this).2.2
theorem PT_new (room tmo:Int) (w:World) (h:1≤room∧room≤15∧1≤tmo∧tmo≤1099511627776) :
  Calls Try.prog 12 #[.int .i64 room,.int .i64 tmo] w fun e w'=>∃ g,e=.returned (.pointer (some ⟨g,0,none⟩))∧PT w w' g room tmo (List.replicate 16 none) noB:=by
 refine (Print.new_yes room tmo w h).mono ?_
 rintro e w' ⟨g,rfl,t⟩
 refine ⟨g,rfl,⟨⟨_,t,rfl⟩,⟨rfl,rfl,fun i p hp=>?_,fun i hb=>?_⟩⟩⟩
 ·
  have:=List.mem_of_getElem? hp
  simp at this
 ·
  have:=List.mem_of_getElem? hb
  simp [noB] at this
/-- A setter, whatever its arguments. -/
theorem set_any {f:Pr→Pr} {n:Int} {F:Nat} {x:Value} (t:PT w W g room tmo m bs)
  (yes:∀ (ps:Slots),Tab w W g room tmo ps bs→∀ (k:Nat),1≤k→k≤15→∀ (b:Nat) (p:Pr),ps[k]?=some (some (b,p))→(0≤p.f7∧p.f7≤1099511627776)→Calls Try.prog F #[.pointer (some ⟨g,0,none⟩),.int .i64 k,x] W fun e W2=>e=.returned (.int .i64 0)∧Acted w W W2 g room tmo ps (ps.set k (some (b,f p))) bs)
  (no:∀ (ps:Slots),Tab w W g room tmo ps bs→(¬ (1≤n∧n≤15)∨ps.getD n.toNat none=none)→Calls Try.prog F #[.pointer (some ⟨g,0,none⟩),.int .i64 n,x] W fun e W2=>e=.returned (.int .i64 4)∧Acted w W W2 g room tmo ps ps bs)
  (hf:∀ p,(f p).f0=p.f0) (h6:∀ p,(0≤p.f6∧p.f6≤1099511627776)→0≤(f p).f6∧(f p).f6≤1099511627776) (h7:∀ p,(0≤p.f7∧p.f7≤1099511627776)→0≤(f p).f7∧(f p).f7≤1099511627776) :
  Calls Try.prog F #[.pointer (some ⟨g,0,none⟩),.int .i64 n,x] W fun e W2=>e=.returned (.int .i64 (withC m n))∧Did w W W2 g room tmo (setM m n f) bs:=by
 obtain ⟨⟨ps,tab,hm⟩,inv⟩:=t
 match hx:atM m n with
 | none =>
  have e1:withC m n=4:=by unfold withC;rw [hx]
  have e2:setM m n f=m:=by unfold setM;rw [hx]
  rw [e1,e2]
  refine (no ps tab (atM_not hm hx)).mono ?_
  rintro e W2 ⟨rfl,a⟩
  exact ⟨rfl,a.did tab hm inv⟩
 | some p =>
  have e1:withC m n=0:=by unfold withC;rw [hx]
  have e2:setM m n f=m.set n.toNat (some (f p)):=by unfold setM;rw [hx]
  rw [e1,e2]
  obtain ⟨k,rfl,k1,k2,hk⟩:=atM_some hx
  rw [Int.toNat_natCast]
  have nd:=inv.node k p hk
  obtain ⟨b,hb⟩:∃ b,ps[k]?=some (some (b,p)):=by
   subst hm
   exact absP_some hk
  refine (yes ps tab k k1 k2 b p hb nd.2.2.2).mono ?_
  rintro e W2 ⟨rfl,a⟩
  exact ⟨rfl,a.did tab (by rw [absP_set,hm]) (inv.upd hk (hf p) (h6 p nd.2.2.1) (h7 p nd.2.2.2))⟩
def tickB (x:Int):Bool:=decide (0≤x∧x≤1099511627776)
theorem PT.Hear_any (t:PT w W g room tmo m bs) (n x:Int):Calls Try.prog 19 #[.pointer (some ⟨g,0,none⟩),.int .i64 n,.int .i64 x] W fun e W2=>e=.returned (.int .i64 (if tickB x=true then withC m n else 1))∧Did w W W2 g room tmo (if tickB x=true then setM m n (fun p=>{ p with f6:=mx p.f6 x }) else m) bs:=by
 by_cases hx:tickB x=true
 ·
  rw [if_pos hx,if_pos hx]
  have hx2:0≤x∧x≤1099511627776:=of_decide_eq_true hx
  exact set_any t (fun ps tab k k1 k2 b p hp _=>tab.Hear_yes k k1 k2 hp x hx2) (fun ps tab hn=>tab.Hear_none n hn x hx2) (fun _=>rfl) (fun p hp=>by show 0≤mx p.f6 x∧mx p.f6 x≤_;unfold mx;split <;> omega) (fun p hp=>hp)
 ·
  rw [if_neg hx,if_neg hx]
  obtain ⟨⟨ps,tab,hm⟩,inv⟩:=t
  refine (tab.Hear_bad n x (fun h=>hx (decide_eq_true h))).mono ?_
  rintro e W2 ⟨rfl,a⟩
  exact ⟨rfl,a.did tab hm inv⟩
theorem PT.Count_any (t:PT w W g room tmo m bs) (n x:Int):Calls Try.prog 15 #[.pointer (some ⟨g,0,none⟩),.int .i64 n,.int .i64 x] W fun e W2=>e=.returned (.int .i64 (if tickB x=true then withC m n else 1))∧Did w W W2 g room tmo (if tickB x=true then setM m n (fun p=>{ p with f7:=mn (p.f7+x) 1099511627776 }) else m) bs:=by
 by_cases hx:tickB x=true
 ·
  rw [if_pos hx,if_pos hx]
  have hx2:0≤x∧x≤1099511627776:=of_decide_eq_true hx
  exact set_any t (fun ps tab k k1 k2 b p hp hq=>tab.Count_yes k k1 k2 hp x hx2 hq) (fun ps tab hn=>tab.Count_none n hn x hx2) (fun _=>rfl) (fun p hp=>hp) (fun p hp=>by show 0≤mn (p.f7+x) 1099511627776∧mn (p.f7+x) 1099511627776≤_;unfold mn;split <;> omega)
 ·
  rw [if_neg hx,if_neg hx]
  obtain ⟨⟨ps,tab,hm⟩,inv⟩:=t
  refine (tab.Count_bad n x (fun h=>hx (decide_eq_true h))).mono ?_
  rintro e W2 ⟨rfl,a⟩
  exact ⟨rfl,a.did tab hm inv⟩
theorem PT.SetHave_any (t:PT w W g room tmo m bs) (n:Int) (x:ByteArray):Calls Try.prog 29 #[.pointer (some ⟨g,0,none⟩),.int .i64 n,.string x] W fun e W2=>e=.returned (.int .i64 (if (x.size:Int)≤20 then withC m n else 1))∧Did w W W2 g room tmo (if (x.size:Int)≤20 then setM m n (fun p=>{ p with f2:=x }) else m) bs:=by
 by_cases hx:(x.size:Int)≤20
 ·
  rw [if_pos hx,if_pos hx]
  exact set_any t (fun ps tab k k1 k2 b p hp _=>tab.SetHave_yes k k1 k2 hp x hx) (fun ps tab hn=>tab.SetHave_none n hn x hx) (fun _=>rfl) (fun p hp=>hp) (fun p hp=>hp)
 ·
  rw [if_neg hx,if_neg hx]
  obtain ⟨⟨ps,tab,hm⟩,inv⟩:=t
  refine (tab.SetHave_bad n x hx).mono ?_
  rintro e W2 ⟨rfl,a⟩
  exact ⟨rfl,a.did tab hm inv⟩
theorem PT.SetWants_any (t:PT w W g room tmo m bs) (n:Int) (x:Bool):Calls Try.prog 30 #[.pointer (some ⟨g,0,none⟩),.int .i64 n,.bool x] W fun e W2=>e=.returned (.int .i64 (withC m n))∧Did w W W2 g room tmo (setM m n (fun p=>{ p with f3:=x })) bs :=
 set_any t (fun ps tab k k1 k2 b p hp _=>tab.SetWants_yes k k1 k2 hp x) (fun ps tab hn=>tab.SetWants_none n hn x) (fun _=>rfl) (fun p hp=>hp) (fun p hp=>hp)
theorem PT.SetOpen_any (t:PT w W g room tmo m bs) (n:Int) (x:Bool):Calls Try.prog 31 #[.pointer (some ⟨g,0,none⟩),.int .i64 n,.bool x] W fun e W2=>e=.returned (.int .i64 (withC m n))∧Did w W W2 g room tmo (setM m n (fun p=>{ p with f4:=x })) bs :=
 set_any t (fun ps tab k k1 k2 b p hp _=>tab.SetOpen_yes k k1 k2 hp x) (fun ps tab hn=>tab.SetOpen_none n hn x) (fun _=>rfl) (fun p hp=>hp) (fun p hp=>hp)
theorem PT.SetOpens_any (t:PT w W g room tmo m bs) (n:Int) (x:Bool):Calls Try.prog 32 #[.pointer (some ⟨g,0,none⟩),.int .i64 n,.bool x] W fun e W2=>e=.returned (.int .i64 (withC m n))∧Did w W W2 g room tmo (setM m n (fun p=>{ p with f5:=x })) bs :=
 set_any t (fun ps tab k k1 k2 b p hp _=>tab.SetOpens_yes k k1 k2 hp x) (fun ps tab hn=>tab.SetOpens_none n hn x) (fun _=>rfl) (fun p hp=>hp) (fun p hp=>hp)
def leaveM (m:PM) (n:Int):PM:=match atM m n with
 | some _=>m.set n.toNat none
 | none=>m
theorem PT.Leave_any (t:PT w W g room tmo m bs) (n:Int):Calls Try.prog 27 #[.pointer (some ⟨g,0,none⟩),.int .i64 n] W fun e W2=>e=.returned (.int .i64 (withC m n))∧Did w W W2 g room tmo (leaveM m n) bs:=by
 obtain ⟨⟨ps,tab,hm⟩,inv⟩:=t
 match hx:atM m n with
 | none =>
  have e1:withC m n=4:=by unfold withC;rw [hx]
  have e2:leaveM m n=m:=by unfold leaveM;rw [hx]
  rw [e1,e2]
  refine (tab.Leave_none n (atM_not hm hx)).mono ?_
  rintro e W2 ⟨rfl,a⟩
  exact ⟨rfl,a.did tab hm inv⟩
 | some p =>
  have e1:withC m n=0:=by unfold withC;rw [hx]
  have e2:leaveM m n=m.set n.toNat none:=by unfold leaveM;rw [hx]
  rw [e1,e2]
  obtain ⟨k,rfl,k1,k2,hk⟩:=atM_some hx
  rw [Int.toNat_natCast]
  obtain ⟨b,hb⟩:∃ b,ps[k]?=some (some (b,p)):=by
   subst hm
   exact absP_some hk
  refine (tab.Leave_yes k k1 k2 hb).mono ?_
  rintro e W2 ⟨rfl,a⟩
  exact ⟨rfl,a.did tab (by rw [absP_none,hm]) (inv.drop k)⟩
def peerB (n:Int):Bool:=decide (1≤n∧n≤15)
theorem PT.Ban_any (t:PT w W g room tmo m bs) (n:Int):Calls Try.prog 28 #[.pointer (some ⟨g,0,none⟩),.int .i64 n] W fun e W2=>e=.returned (.int .i64 (if peerB n=true then 0 else 1))∧Did w W W2 g room tmo (if peerB n=true then m.set n.toNat none else m) (if peerB n=true then bs.set n.toNat true else bs):=by
 obtain ⟨⟨ps,tab,hm⟩,inv⟩:=t
 by_cases hx:peerB n=true
 ·
  rw [if_pos hx,if_pos hx,if_pos hx]
  have hx2:1≤n∧n≤15:=of_decide_eq_true hx
  obtain ⟨k,rfl⟩:=Int.eq_ofNat_of_zero_le (show 0≤n by omega)
  rw [Int.toNat_natCast]
  refine (tab.Ban_yes k (by omega) (by omega)).mono ?_
  rintro e W2 ⟨rfl,a⟩
  exact ⟨rfl,a.did tab (by rw [absP_none,hm]) (inv.banned (by omega))⟩
 ·
  rw [if_neg hx,if_neg hx,if_neg hx]
  refine (tab.Ban_bad n (fun h=>hx (decide_eq_true h))).mono ?_
  rintro e W2 ⟨rfl,a⟩
  exact ⟨rfl,a.did tab hm inv⟩
theorem PT.Banned_any (t:PT w W g room tmo m bs) (n:Int):Calls Try.prog 23 #[.pointer (some ⟨g,0,none⟩),.int .i64 n] W fun e W2=>e=.returned (.bool (peerB n && bs.getD n.toNat false))∧Below W.heap.size W W2:=by
 obtain ⟨⟨ps,tab,hm⟩,inv⟩:=t
 by_cases hx:peerB n=true
 ·
  rw [hx,Bool.true_and]
  have hx2:1≤n∧n≤15:=of_decide_eq_true hx
  obtain ⟨k,rfl⟩:=Int.eq_ofNat_of_zero_le (show 0≤n by omega)
  exact tab.Banned_yes k (by omega) (by omega)
 ·
  rw [show peerB n=false by simpa using hx,Bool.false_and]
  exact tab.Banned_no n (fun h=>hx (decide_eq_true h))
theorem PT.Get_any (t:PT w W g room tmo m bs) (n:Int):Calls Try.prog 17 #[.pointer (some ⟨g,0,none⟩),.int .i64 n] W fun e W2=>e=.returned (.tuple #[.agg (peerC ((atM m n).getD z33)).toArray,.bool (atM m n).isSome])∧Below W.heap.size W W2:=by
 obtain ⟨⟨ps,tab,hm⟩,inv⟩:=t
 match hx:atM m n with
 | none=>exact tab.Get_none n (atM_not hm hx)
 | some p =>
  obtain ⟨k,rfl,k1,k2,hk⟩:=atM_some hx
  obtain ⟨b,hb⟩:∃ b,ps[k]?=some (some (b,p)):=by
   subst hm
   exact absP_some hk
  exact tab.Get_yes k k1 k2 hb
theorem PT.List_any (t:PT w W g room tmo m bs):Calls Try.prog 21 #[.pointer (some ⟨g,0,none⟩)] W fun e W2=>∃ v,e=.returned v∧Kd.R k33 33 W2 W.heap.size (fun _=>True) v (m.filterMap id)∧Below W.heap.size W W2:=by
 obtain ⟨⟨ps,tab,hm⟩,inv⟩:=t
 have:=tab.List_
 rw [absP_there,hm] at this
 exact this
theorem PT.Len_any (t:PT w W g room tmo m bs):Calls Try.prog 22 #[.pointer (some ⟨g,0,none⟩)] W fun e W2=>e=.returned (.int .i64 ((m.filterMap id).length:Nat))∧Below W.heap.size W W2:=by
 obtain ⟨⟨ps,tab,hm⟩,inv⟩:=t
 have:=tab.Len_
 rw [absP_there,hm] at this
 exact this
theorem PT.Roll_any (t:PT w W g room tmo m bs):Calls Try.prog 16 #[.pointer (some ⟨g,0,none⟩)] W fun e W2=>e=.returned (.tuple #[])∧Did w W W2 g room tmo (m.map (Option.map roll1)) bs:=by
 obtain ⟨⟨ps,tab,hm⟩,inv⟩:=t
 refine tab.Roll_.mono ?_
 rintro e W2 ⟨rfl,a⟩
 refine ⟨rfl,a.did tab ?_ ⟨by rw [List.length_map];exact inv.len,inv.lb,fun i p hp=>?_,fun i hb=>?_⟩⟩
 ·
  subst hm
  unfold absP
  rw [List.map_map,List.map_map]
  apply List.map_congr_left
  intro x _
  cases x <;> rfl
 ·
  rw [List.getElem?_map] at hp
  match hx:m[i]? with
  | none=>rw [hx] at hp;cases hp
  | some none=>rw [hx] at hp;cases hp
  | some (some q) =>
   rw [hx] at hp
   simp only [Option.map_some,Option.some.injEq] at hp
   subst hp
   have:=inv.node i q hx
   exact ⟨this.1,this.2.1,this.2.2.1,by simp [roll1]⟩
 ·
  rw [List.getElem?_map,inv.ban i hb]
  rfl
def expM (now tmo:Int) (x:Option Pr):Option Pr:=match x with
 | some p=>if lateB now tmo p=true then none else some p
 | none=>none
def goneM (now tmo:Int) (m:PM):Nat→List Int
 | 0=>[]
 | i+1=>goneM now tmo m i ++ (match m[i]? with
  | some (some p)=>if lateB now tmo p=true then [(i:Int)] else []
  | _=>[])
theorem goneM_eq (ps:Slots):∀ i,goneI now tmo ps i=goneM now tmo (absP ps) i
 | 0=>rfl
 | i+1=>by
  unfold goneI goneM
  rw [goneM_eq ps i]
  congr 1
  unfold absP
  rw [List.getElem?_map]
  match ps[i]? with
  | none=>rfl
  | some none=>rfl
  | some (some (b,q))=>rfl
theorem expM_inv (hi:InvM m bs):InvM (m.map (expM now tmo)) bs:=by
 refine ⟨by rw [List.length_map];exact hi.len,hi.lb,fun i p hp=>?_,fun i hb=>?_⟩
 ·
  rw [List.getElem?_map] at hp
  match hx:m[i]? with
  | none=>rw [hx] at hp;cases hp
  | some none=>rw [hx] at hp;cases hp
  | some (some q) =>
   rw [hx] at hp
   simp only [Option.map_some,Option.some.injEq,expM] at hp
   split at hp
   ·
    cases hp
   ·
    cases hp
    exact hi.node i _ hx
 ·
  rw [List.getElem?_map,hi.ban i hb]
  rfl
theorem PT.Expire_any (t:PT w W g room tmo m bs) (now:Int):Calls Try.prog 18 #[.pointer (some ⟨g,0,none⟩),.int .i64 now] W fun e W2=>∃ v,e=.returned v∧Kd.R (Kd.int .i64) 3 W2 W.heap.size (fun k=>k≠g) v (if tickB now=true then goneM now tmo m 16 else [])∧Did w W W2 g room tmo (if tickB now=true then m.map (expM now tmo) else m) bs:=by
 obtain ⟨⟨ps,tab,hm⟩,inv⟩:=t
 by_cases hx:tickB now=true
 ·
  rw [if_pos hx,if_pos hx]
  refine (tab.Expire_yes (timed_of inv hm) (of_decide_eq_true hx)).mono ?_
  rintro e W2 ⟨v,rfl,hr,a⟩
  refine ⟨v,rfl,by rw [← hm,← goneM_eq];exact hr,a.did tab ?_ (expM_inv inv)⟩
  subst hm
  unfold absP
  rw [List.map_map,List.map_map]
  apply List.map_congr_left
  intro x _
  match x with
  | none=>rfl
  | some (b,q) =>
   simp only [Function.comp_apply,expO,Option.map_some,expM]
   split <;> rfl
 ·
  rw [if_neg hx,if_neg hx]
  refine (tab.Expire_bad (fun h=>hx (decide_eq_true h))).mono ?_
  rintro e W2 ⟨rfl,a⟩
  exact ⟨_,rfl,Kd.R_nil _ _ _ _ _,a.did tab hm inv⟩
def placeB (x y:Int):Bool:=decide ((-1048576≤x∧x≤1048576)∧(-1048576≤y∧y≤1048576))
def meetC (room:Int) (m:PM) (bs:List Bool) (n x y now:Int):Int :=
 if peerB n=true∧placeB x y=true∧tickB now=true then (if bs.getD n.toNat false=true then 10 else if m.getD n.toNat none≠none then 5 else if room≤((m.filterMap id).length:Int) then 6 else 0) else 1
def meetM (room:Int) (m:PM) (bs:List Bool) (n x y now:Int):PM:=if meetC room m bs n x y now=0 then m.set n.toNat (some (met n x y now)) else m
theorem PT.Meet_any (t:PT w W g room tmo m bs) (n x y now:Int):Calls Try.prog 14 #[.pointer (some ⟨g,0,none⟩),.int .i64 n,.agg #[.int .i64 x,.int .i64 y],.int .i64 now] W fun e W2=>e=.returned (.int .i64 (meetC room m bs n x y now))∧Did w W W2 g room tmo (meetM room m bs n x y now) bs:=by
 obtain ⟨⟨ps,tab,hm⟩,inv⟩:=t
 have stay:∀ c:Int,c≠0→meetC room m bs n x y now=c→(Calls Try.prog 14 #[.pointer (some ⟨g,0,none⟩),.int .i64 n,.agg #[.int .i64 x,.int .i64 y],.int .i64 now] W fun e W2=>e=.returned (.int .i64 c)∧Acted w W W2 g room tmo ps ps bs) →
   Calls Try.prog 14 #[.pointer (some ⟨g,0,none⟩),.int .i64 n,.agg #[.int .i64 x,.int .i64 y],.int .i64 now] W fun e W2=>e=.returned (.int .i64 (meetC room m bs n x y now))∧Did w W W2 g room tmo (meetM room m bs n x y now) bs:=by
  intro c hc0 hc h
  have:meetM room m bs n x y now=m:=by
   unfold meetM
   rw [hc,if_neg hc0]
  rw [this,hc]
  refine h.mono ?_
  rintro e W2 ⟨rfl,a⟩
  exact ⟨rfl,a.did tab hm inv⟩
 by_cases hp:peerB n=true
 ·
  have hp2:1≤n∧n≤15:=of_decide_eq_true hp
  obtain ⟨k,rfl⟩:=Int.eq_ofNat_of_zero_le (show 0≤n by omega)
  have k1:1≤k:=by omega
  have k2:k≤15:=by omega
  by_cases hc:placeB x y=true
  ·
   have hc2:(-1048576≤x∧x≤1048576)∧(-1048576≤y∧y≤1048576):=of_decide_eq_true hc
   by_cases ht:tickB now=true
   ·
    have ht2:0≤now∧now≤1099511627776:=of_decide_eq_true ht
    by_cases hb:bs.getD k false=true
    ·
     refine stay 10 (by decide) ?_ (tab.Meet_ban k k1 k2 x y now hc2 ht2 hb)
     unfold meetC
     rw [if_pos ⟨hp,hc,ht⟩,Int.toNat_natCast,if_pos hb]
    ·
     have hb2:bs.getD k false=false:=by simpa using hb
     match hx:m.getD k none with
     | some p =>
      obtain ⟨b,hpb⟩:∃ b,ps[k]?=some (some (b,p)):=by
       subst hm
       refine absP_some ?_
       rw [List.getD_eq_getElem?_getD] at hx
       match hy:(absP ps)[k]? with
       | none=>rw [hy] at hx;cases hx
       | some none=>rw [hy] at hx;cases hx
       | some (some q)=>rw [hy] at hx;simp only [Option.getD_some,Option.some.injEq] at hx;rw [hx]
      refine stay 5 (by decide) ?_ (tab.Meet_there k k1 k2 x y now hc2 ht2 hb2 hpb)
      unfold meetC
      rw [if_pos ⟨hp,hc,ht⟩,Int.toNat_natCast,if_neg hb,hx,if_pos (by simp)]
     | none =>
      have hpn:ps.getD k none=none:=by
       subst hm
       exact absP_no hx
      have hl:(there ps).length=(m.filterMap id).length:=by rw [absP_there,hm]
      by_cases hr:room≤((m.filterMap id).length:Int)
      ·
       refine stay 6 (by decide) ?_ (tab.Meet_full k k1 k2 x y now hc2 ht2 hb2 hpn (by rw [hl];exact hr))
       unfold meetC
       rw [if_pos ⟨hp,hc,ht⟩,Int.toNat_natCast,if_neg hb,hx,if_neg (by simp),if_pos hr]
      ·
       have hc0:meetC room m bs k x y now=0:=by
        unfold meetC
        rw [if_pos ⟨hp,hc,ht⟩,Int.toNat_natCast,if_neg hb,hx,if_neg (by simp),if_neg hr]
       have hm0:meetM room m bs k x y now=m.set k (some (met k x y now)):=by
        unfold meetM
        rw [if_pos hc0,Int.toNat_natCast]
       rw [hc0,hm0]
       refine (tab.Meet_yes k k1 k2 x y now hc2 ht2 hb2 hpn (by rw [hl];omega)).mono ?_
       rintro e W2 ⟨rfl,b,a⟩
       exact ⟨rfl,a.did tab (by rw [absP_set,hm]) (inv.put k1 ⟨rfl,ht2,by simp [met,z33]⟩ hb2)⟩
   ·
    refine stay 1 (by decide) ?_ (tab.Meet_now k k1 k2 x y now hc2 (fun h=>ht (decide_eq_true h)))
    unfold meetC
    exact if_neg (fun h=>ht h.2.2)
  ·
   refine stay 1 (by decide) ?_ (tab.Meet_place k k1 k2 x y now (fun h=>hc (decide_eq_true h)))
   unfold meetC
   exact if_neg (fun h=>hc h.2.1)
 ·
  refine stay 1 (by decide) ?_ (tab.Meet_node n (fun h=>hp (decide_eq_true h)) x y now)
  unfold meetC
  exact if_neg (fun h=>hp h.1)
end
end Go.Proofs.Ytpejjpecdkbleaa.Print
/-! #### MaPeers12 -/
/- The page's example of peers. -/
namespace Go.Proofs.Ytpejjpecdkbleaa.Print
open Go.RowKit Go.Proofs.YtpejjpecdkbleaaW.PrintWords Go.Proofs.YtpejjpecdkbleaaW.PrintLast Go.Proofs.YtpejjpecdkbleaaW.PrintMore
set_option linter.unusedVariables false
set_option linter.unusedSimpArgs false
def aw0:PM:=List.replicate 16 none
def aw1:PM:=aw0.set 3 (some (met 3 0 0 0))
def aw2:PM:=aw1.set 3 none
def awB:List Bool:=noB.set 3 true
def aw3:PM:=aw2.set 4 (some (met 4 0 0 0))
set_option maxHeartbeats 1600000 in
set_option maxRecDepth 100000 in
theorem awake18 (W:World):Calls Try.prog 13 #[] W fun e W2=>e=.returned (.bool true)∧Below W.heap.size W W2:=by
 have a1:meetC 1 aw0 noB 3 0 0 0=0∧meetM 1 aw0 noB 3 0 0 0=aw1:=⟨rfl,rfl⟩
 have a2:meetC 1 aw1 noB 4 0 0 0=6∧meetM 1 aw1 noB 4 0 0 0=aw1:=⟨rfl,rfl⟩
 have a3:meetC 1 aw2 awB 4 0 0 0=0∧meetM 1 aw2 awB 4 0 0 0=aw3:=⟨rfl,rfl⟩
 have a4:meetC 1 aw3 awB 3 0 0 0=10∧meetM 1 aw3 awB 3 0 0 0=aw3:=⟨rfl,rfl⟩
 have a5:(aw3.filterMap id).length=1:=rfl
 have A1:=Aside0.mk a1
 have A2:=Aside0.mk a2
 have A3:=Aside0.mk a3
 have A4:=Aside0.mk a4
 have A5:=Aside0.mk a5
 clear a1 a2 a3 a4 a5
 go_enter Try.func13,Try.ntmps13
 go_wp2_with fail
 refine (PT_new 1 9 W (by decide)).mono ?_
 rintro e W1 ⟨g,rfl,t⟩
 have T1:=Aside0.mk (show PT W W1 g 1 9 aw0 noB from t)
 clear t
 go_wp2_with fail
 refine (T1.out.Meet_any 3 0 0 0).mono ?_
 rintro e W2 ⟨he,d⟩
 rw [A1.out.1] at he
 rw [A1.out.2] at d
 subst he
 have T2:=Aside0.mk d.pt
 clear d T1
 go_wp2_with fail
 refine (T2.out.Meet_any 4 0 0 0).mono ?_
 rintro e W3 ⟨he,d⟩
 rw [A2.out.1] at he
 rw [A2.out.2] at d
 subst he
 have T3:=Aside0.mk d.pt
 clear d T2
 go_wp2_with fail
 refine (T3.out.Ban_any 3).mono ?_
 rintro e W4 ⟨he,d⟩
 have T4:=Aside0.mk (show PT W W4 g 1 9 aw2 awB from d.pt)
 have he2:e=.returned (.int .i64 0):=he
 clear d T3 he
 subst he2
 go_wp2_with fail
 refine (T4.out.Meet_any 4 0 0 0).mono ?_
 rintro e W5 ⟨he,d⟩
 rw [A3.out.1] at he
 rw [A3.out.2] at d
 subst he
 have T5:=Aside0.mk d.pt
 clear d T4
 go_wp2_with fail
 refine (T5.out.Meet_any 3 0 0 0).mono ?_
 rintro e W6 ⟨he,d⟩
 rw [A4.out.1] at he
 rw [A4.out.2] at d
 subst he
 have T6:=Aside0.mk d.pt
 clear d T5
 go_wp2_with fail
 refine (T6.out.Len_any).mono ?_
 rintro e W7 ⟨he,d⟩
 rw [A5.out] at he
 subst he
 have T7:=Aside0.mk (T6.out.below d)
 clear d T6
 go_wp2_with fail
 go_ret
 exact ⟨rfl,T7.out.bel⟩
end Go.Proofs.Ytpejjpecdkbleaa.Print
/-! #### Pr69 -/
namespace Go.Proofs.Ytpejjpecdkbleaa.Print
open Go.RowKit Go.Proofs.YtpejjpecdkbleaaW.PrintWords Go.Proofs.YtpejjpecdkbleaaW.PrintLast Go.Proofs.YtpejjpecdkbleaaW.PrintMore
attribute [local go_sem] max2_int min2_int max_two min_two max_three min_three max_four min_four
set_option linter.unusedVariables false
set_option linter.unusedSimpArgs false
/-! ### mosaicref18_IsPeer: function 69 -/
def mosaicref18_IsPeer.f (a0:Int):Option (Bool):=if a0≥1 then (some (decide (a0≤15))) else (some false)
set_option maxHeartbeats 8000000 in
set_option maxRecDepth 100000 in
theorem mosaicref18_IsPeer.calls (a0:Int) (r:Bool) (w:World) (h:mosaicref18_IsPeer.f a0=some r) :
  Calls Try.prog 69 #[.int .i64 a0] w fun e w'=>e=.returned (.bool r)∧Drawn0 w w':=by
 have H:(if a0≥1 then (some (decide (a0≤15))) else (some false))=some r:=h
 clear h
 by_cases c2:a0≥1
 ·
  rw [if_pos c2] at H
  have c2b0:decide (1≤a0)=true:=decide_eq_true c2
  clear c2
  obtain rfl:=Option.some.inj H
  go_enter Try.func69,Try.ntmps69
  go_wp2
  go_ret
  exact ⟨by first|rfl|(simp;done)|(simp [*];done),by repeat (first|exact Drawn0.refl _|apply Drawn0.step)⟩
 ·
  rw [if_neg c2] at H
  have c2b0:decide (1≤a0)=false:=decide_eq_false c2
  clear c2
  obtain rfl:=Option.some.inj H
  go_enter Try.func69,Try.ntmps69
  go_wp2
  go_ret
  exact ⟨by first|rfl|(simp;done)|(simp [*];done),by repeat (first|exact Drawn0.refl _|apply Drawn0.step)⟩
end Go.Proofs.Ytpejjpecdkbleaa.Print
/-! #### Pr74 -/
namespace Go.Proofs.Ytpejjpecdkbleaa.Print
open Go.RowKit Go.Proofs.YtpejjpecdkbleaaW.PrintWords Go.Proofs.YtpejjpecdkbleaaW.PrintLast Go.Proofs.YtpejjpecdkbleaaW.PrintMore
attribute [local go_sem] max2_int min2_int max_two min_two max_three min_three max_four min_four
set_option linter.unusedVariables false
set_option linter.unusedSimpArgs false
/-! ### mosaicref18_Table_without: function 74 -/
def mosaicref18_Table_without.l0:Nat→Int→List (S56)→Int→Int→Int→List (S56)→List Int→Option (Int×Int×(List (S56))×List Int)
 | 0,_,_,_,_,_,_,_=>none
 | k+1,x1,x5,x6,x2000,x2001,x2002,x2003=>if x6 < (x2002.length:Int) then (if 0≤x6 then (if ((rd_T56 x2002 x6).f0)=x1 then (mosaicref18_Table_without.l0 k x1 x5 (wrap64 (x6+1)) x2000 x2001 x2002 x2003) else (if x5.length < 1954687338268 then (mosaicref18_Table_without.l0 k x1 (x5 ++ [(⟨(rd_T56 x2002 x6).f0,(⟨(rd_T56 x2002 x6).f1.f0,(rd_T56 x2002 x6).f1.f1⟩:S54),(rd_T56 x2002 x6).f2,(rd_T56 x2002 x6).f3,(rd_T56 x2002 x6).f4,(rd_T56 x2002 x6).f5,(rd_T56 x2002 x6).f6,(rd_T56 x2002 x6).f7,(rd_T56 x2002 x6).f8⟩:S56)]) (wrap64 (x6+1)) x2000 x2001 x2002 x2003) else (none))) else (none)) else (some (x2000,x2001,x5,x2003))
def mosaicref18_Table_without.f (k:Nat) (a0_0:Int) (a0_1:Int) (l0_2:List (S56)) (l0_3:List Int) (a1:Int):Option (Int×Int×(List (S56))×List Int):=mosaicref18_Table_without.l0 k a1 ([]:List (S56)) 0 a0_0 a0_1 l0_2 l0_3
theorem mosaicref18_Table_without.mono_l:∀ k,(∀ y0 y1 y2 y3 y4 y5 y6,LeO (mosaicref18_Table_without.l0 k y0 y1 y2 y3 y4 y5 y6) (mosaicref18_Table_without.l0 (k+1) y0 y1 y2 y3 y4 y5 y6))
 | 0=>fun _ _ _ _ _ _ _ r h=>by simp [mosaicref18_Table_without.l0] at h
 | k+1=>by
  have ih0:=mosaicref18_Table_without.mono_l k
  ·
   intro y0 y1 y2 y3 y4 y5 y6
   unfold mosaicref18_Table_without.l0
   repeat' first
   | (with_reducible exact ih0 _ _ _ _ _ _ _)
   | (with_reducible exact LeO.refl _)
   | (with_reducible exact LeO.none _)
   | (with_reducible refine LeO.ite ?_ ?_)
   | (with_reducible refine LeO.bind ?_ (fun _=>?_))
   | exact ih0 _ _ _ _ _ _ _
   | exact LeO.none _
   | refine LeO.ite ?_ ?_
   | refine LeO.bind ?_ (fun _=>?_)
theorem mosaicref18_Table_without.mono:∀ a0 a1 a2 a3 a4 k,LeO (mosaicref18_Table_without.f k a0 a1 a2 a3 a4) (mosaicref18_Table_without.f (k+1) a0 a1 a2 a3 a4):=by
 intro a0 a1 a2 a3 a4 k
 have ih0:=mosaicref18_Table_without.mono_l k
 unfold mosaicref18_Table_without.f
 repeat' first
   | (with_reducible exact ih0 _ _ _ _ _ _ _)
   | (with_reducible exact LeO.refl _)
   | (with_reducible exact LeO.none _)
   | (with_reducible refine LeO.ite ?_ ?_)
   | (with_reducible refine LeO.bind ?_ (fun _=>?_))
   | exact ih0 _ _ _ _ _ _ _
   | exact LeO.none _
   | refine LeO.ite ?_ ?_
   | refine LeO.bind ?_ (fun _=>?_)
set_option maxHeartbeats 8000000 in
set_option maxRecDepth 100000 in
theorem mosaicref18_Table_without.calls (k:Nat) (a0_0:Int) (a0_1:Int) (A0_2:Option Addr) (c0_2:Nat) (l0_2:List (S56)) (P0_3_:Nat→Prop) (u9000_:Value) (l0_3:List Int) (a1:Int) (r1:Int) (r2:Int) (r3:List (S56)) (r4:List Int) (w0 w:World) (hB:Below w0.heap.size w0 w) (hr0_2:∀ W_,Kept w W_ (fun k_=>P0_3_ k_)→Kd.C k56 W_ A0_2 l0_2.length l0_2) (hc0_2:l0_2.length≤c0_2) (ho0_3:Kd.R (Kd.int .i64) 3 w w0.heap.size P0_3_ u9000_ l0_3) (h:mosaicref18_Table_without.f k a0_0 a0_1 l0_2 l0_3 a1=some (r1,r2,r3,r4)) :
  Calls Try.prog 74 #[.agg #[.int .i64 a0_0,.int .i64 a0_1,.slice A0_2 l0_2.length c0_2,u9000_],.int .i64 a1] w fun e w'=>∃ v2_ v3_:Value,e=.returned (.agg #[.int .i64 r1,.int .i64 r2,v2_,v3_])∧Kd.R k56 56 w' w0.heap.size (fun k_=>(P0_3_ k_∨w.heap.size≤k_)) v2_ r3∧Kd.R (Kd.int .i64) 3 w' w0.heap.size (fun k_=>(P0_3_ k_∨w.heap.size≤k_)) v3_ r4∧Below w0.heap.size w0 w'∧Kept w w' (fun k_=>P0_3_ k_):=by
 have hu45:=Try.underlying45
 have hu56:=Try.underlying56
 have HR0_2:=Aside0.mk hr0_2
 have HC0_2:=Aside0.mk hc0_2
 clear hr0_2 hc0_2
 have HO0_3:=Aside0.mk (show Kd.R (Kd.int .i64) 3 w w0.heap.size (fun k_=>(P0_3_ k_∨w.heap.size≤k_)) u9000_ l0_3 from Kd.R_mono ho0_3 (fun k_ hk=>(.inl hk)))
 have HK:=Aside0.mk (Kept.refl w (fun k_=>P0_3_ k_))
 have HW0:=Aside0.mk hB.size
 have HB:=Aside0.mk hB
 clear hB
 have H:(mosaicref18_Table_without.l0 k a1 ([]:List (S56)) 0 a0_0 a0_1 l0_2 l0_3)=some (r1,r2,r3,r4):=h
 clear h
 have H':=Aside0.mk H
 clear H
 obtain ⟨Ao3,co3,eo3⟩:=Kd.R_slice HO0_3.out
 subst eo3
 go_enter Try.func74,Try.ntmps74
 go_wp2_with (first|((with_reducible refine gate_dst (N:=2) rfl ?_);refine box_event ?hg (N:=2) ?hd (cs:=#[.int .i64 a0_0,.int .i64 a0_1,.slice A0_2 l0_2.length c0_2,.slice Ao3 l0_3.length co3]) (t:=45) ?hr ?_;(case hd=>rfl);(case hg=>rfl);(case hr=>first|(go_simp;done)|(go_simp;rfl));intro gb1 hg w4 hbox hb;have n0_:=Aside0.mk (Kd.R_below (by (with_reducible repeat (first|apply Kd.R_alloc|apply Kd.R_drewN|apply Kd.R_drew));exact HO0_3.out) hb);have n1_:=Aside0.mk (Kept.below (S:=(fun k_=>P0_3_ k_)) (by repeat (first|(with_reducible first|exact HK.out|apply Kept.alloc|apply Kept.drewN|apply Kept.drew)|exact HK.out)) hb);have n2_:=Aside0.mk (below_step (by repeat (first|(with_reducible first|exact HB.out|apply below_alloc|apply pw_below_drewN|apply below_drew1)|exact HB.out)) hb);have n3_:=Aside0.mk (hbox);have n4_:=Aside0.mk ((by rw [hg];exact (by first|exact HK.out.1|exact (show Kept w _ (fun k_=>P0_3_ k_) from by repeat (first|(with_reducible first|exact HK.out|apply Kept.alloc|apply Kept.drewN|apply Kept.drew)|exact HK.out)).1):w.heap.size≤gb1));have n5_:=Aside0.mk ((by rw [hg];exact (below_size (by repeat (first|(with_reducible first|exact HB.out|apply below_alloc|apply pw_below_drewN|apply below_drew1)|exact HB.out))):w0.heap.size≤gb1));clear HO0_3;clear HK;clear HB;have HO0_3:=n0_;have HK:=n1_;have HB:=n2_;have BK1:=n3_;have GW1:=n4_;have GE1:=n5_;clear n0_ n1_ n2_ n3_ n4_ n5_;clear hb hbox hg)|((with_reducible refine gate_dst (N:=4) rfl ?_);refine box_event ?hg (N:=4) ?hd (cs:=#[.int .i64 0,.int .i64 0,.slice none 0 0,.slice none 0 0]) (t:=45) ?hr ?_;(case hd=>rfl);(case hg=>rfl);(case hr=>first|(go_simp;done)|(go_simp;rfl));intro gb2 hg w5 hbox hb;have n0_:=Aside0.mk (Kd.R_below (by (with_reducible repeat (first|apply Kd.R_alloc|apply Kd.R_drewN|apply Kd.R_drew));exact HO0_3.out) hb);have n1_:=Aside0.mk (blk_below (g:=gb1) (o:=.cells #[.int .i64 a0_0,.int .i64 a0_1,.slice A0_2 l0_2.length c0_2,.slice Ao3 l0_3.length co3] 45 (0,0)) (by (with_reducible repeat (first|refine blk_drewN ?_ _|refine blk_drew ?_|refine blk_alloc ?_ _));exact BK1.out) hb);have n2_:=Aside0.mk (Kept.below (S:=(fun k_=>P0_3_ k_)) (by repeat (first|(with_reducible first|exact HK.out|apply Kept.alloc|apply Kept.drewN|apply Kept.drew|refine Kept.setCell ?_ (.inr GW1.out) _)|exact HK.out)) hb);have n3_:=Aside0.mk (below_step (by repeat (first|(with_reducible first|exact HB.out|apply below_alloc|apply pw_below_drewN|apply below_drew1|refine below_set ?_ GE1.out)|exact HB.out)) hb);have n4_:=Aside0.mk (hbox);have n5_:=Aside0.mk ((by rw [hg];exact (by first|exact HK.out.1|exact (show Kept w _ (fun k_=>P0_3_ k_) from by repeat (first|(with_reducible first|exact HK.out|apply Kept.alloc|apply Kept.drewN|apply Kept.drew|refine Kept.setCell ?_ (.inr GW1.out) _)|exact HK.out)).1):w.heap.size≤gb2));have n6_:=Aside0.mk ((by rw [hg];exact (below_size (by repeat (first|(with_reducible first|exact HB.out|apply below_alloc|apply pw_below_drewN|apply below_drew1|refine below_set ?_ GE1.out)|exact HB.out))):w0.heap.size≤gb2));have n7_:=Aside0.mk ((by rw [hg];exact Nat.ne_of_lt (blk_lt (g:=gb1) (o:=.cells #[.int .i64 a0_0,.int .i64 a0_1,.slice A0_2 l0_2.length c0_2,.slice Ao3 l0_3.length co3] 45 (0,0)) (by (with_reducible repeat (first|refine blk_drewN ?_ _|refine blk_drew ?_|refine blk_alloc ?_ _));exact BK1.out)):gb1≠gb2));have n8_:=Aside0.mk ((by rw [hg];exact Nat.ne_of_gt (blk_lt (g:=gb1) (o:=.cells #[.int .i64 a0_0,.int .i64 a0_1,.slice A0_2 l0_2.length c0_2,.slice Ao3 l0_3.length co3] 45 (0,0)) (by (with_reducible repeat (first|refine blk_drewN ?_ _|refine blk_drew ?_|refine blk_alloc ?_ _));exact BK1.out)):gb2≠gb1));clear HO0_3;clear BK1;clear HK;clear HB;have HO0_3:=n0_;have BK1:=n1_;have HK:=n2_;have HB:=n3_;have BK2:=n4_;have GW2:=n5_;have GE2:=n6_;have NB1_2:=n7_;have NB2_1:=n8_;clear n0_ n1_ n2_ n3_ n4_ n5_ n6_ n7_ n8_;clear hb hbox hg))
 go_loopg [5,6] k (fun kq v5 v6 w'=>∃ (x5_1:List (S56)) (x6_1:Int),v6=.int .i64 x6_1∧Aside0 (mosaicref18_Table_without.l0 kq a1 x5_1 x6_1 a0_0 a0_1 l0_2 l0_3=some (r1,r2,r3,r4))∧Aside0 (kq≤k)∧Aside0 (Kd.R k56 56 w' w0.heap.size (fun k_=>(P0_3_ k_∨w.heap.size≤k_)) v5 x5_1)∧Aside0 (Kd.R (Kd.int .i64) 3 w' w0.heap.size (fun k_=>(P0_3_ k_∨w.heap.size≤k_)) (.slice Ao3 l0_3.length co3) l0_3)∧Aside0 (w'.heap[gb1]?=some (.cells #[.int .i64 a0_0,.int .i64 a0_1,(.slice A0_2 l0_2.length c0_2),(.slice Ao3 l0_3.length co3)] 45 (0,0)))∧Aside0 (w'.heap[gb2]?=some (.cells #[.int .i64 0,.int .i64 0,(.slice none 0 0),(.slice none 0 0)] 45 (0,0)))∧Aside0 (Kept w w' (fun k_=>P0_3_ k_))∧Aside0 (Below w0.heap.size w0 w'))
 case atStart=>exact ⟨(([]:List (S56))),(0),(by first|rfl|(simp;done)|(simp [*];done)),H',⟨Nat.le_refl _⟩,⟨by first|exact Kd.R_nil _ _ _ _ _|exact Kd.N_nil _ _ _ _ _|exact Kd.V_nil _ _ _ _ _|exact Kd.Q_nil _ _ _ _ _|exact Kd.S_nil _ _ _ _ _⟩,⟨by (with_reducible repeat (first|apply Kd.R_alloc|apply Kd.R_drewN|apply Kd.R_drew));exact HO0_3.out⟩,⟨by (with_reducible repeat (first|refine blk_drewN ?_ _|refine blk_drew ?_|refine blk_alloc ?_ _));exact BK1.out⟩,⟨by (with_reducible repeat (first|refine blk_drewN ?_ _|refine blk_drew ?_|refine blk_alloc ?_ _));exact BK2.out⟩,⟨by repeat (first|(with_reducible first|exact HK.out|apply Kept.alloc|apply Kept.drewN|apply Kept.drew|refine Kept.setCell ?_ (.inr GW1.out) _|refine Kept.setCell ?_ (.inr GW2.out) _)|exact HK.out)⟩,⟨by repeat (first|(with_reducible first|exact HB.out|apply below_alloc|apply pw_below_drewN|apply below_drew1|refine below_set ?_ GE1.out|refine below_set ?_ GE2.out)|exact HB.out)⟩⟩
 case round =>
  clear H'
  try clear p2
  obtain ⟨x5_1,x6_1,rfl,HA,HK1,HO_5,HO_2003,BK1,BK2,HK,HB⟩:=hrel
  cases gk with
  | zero=>exact absurd HA.out (by simp [mosaicref18_Table_without.l0])
  | succ k1 =>
   have H:=HA.out
   clear HA
   simp only [mosaicref18_Table_without.l0] at H
   by_cases c6:x6_1 < (l0_2.length:Int)
   ·
    rw [if_pos c6] at H
    have c6b0:decide (x6_1 < (l0_2.length:Int))=true:=decide_eq_true c6
    clear c6
    by_cases c7:0≤x6_1
    ·
     rw [if_pos c7] at H
     have c7b0:decide (0≤x6_1)=true:=decide_eq_true c7
     clear c7
     by_cases c8:((rd_T56 l0_2 x6_1).f0)=a1
     ·
      rw [if_pos c8] at H
      have c8b0:(((rd_T56 l0_2 x6_1).f0) == a1)=true:=beq_iff_eq.mpr c8
      have c8b1:(((rd_T56 l0_2 x6_1).f0) != a1)=false:=bne_eq_false_iff_eq.mpr c8
      clear c8
      have H':=Aside0.mk H
      clear H
      have hnb9:=NB1_2.out
      have hnc9:=NB2_1.out
      have hcz10_0:wr.cell? ⟨gb1,0,none⟩=some (.int .i64 a0_0):=(blk_cell BK1.out 0).trans rfl
      have hcz10_1:wr.cell? ⟨gb1,1,none⟩=some (.int .i64 a0_1):=(blk_cell BK1.out 1).trans rfl
      have hcz10_2:wr.cell? ⟨gb1,2,none⟩=some (.slice A0_2 l0_2.length c0_2):=(blk_cell BK1.out 2).trans rfl
      have hcz10_3:wr.cell? ⟨gb1,3,none⟩=some (.slice Ao3 l0_3.length co3):=(blk_cell BK1.out 3).trans rfl
      have hfz10_0:=blk_frozen BK1.out 0
      have hfz10_1:=blk_frozen BK1.out 1
      have hfz10_2:=blk_frozen BK1.out 2
      have hfz10_3:=blk_frozen BK1.out 3
      have p3:0≤(x6_1:Int):=of_decide_eq_true (by first|(with_reducible assumption)|assumption)
      have q3:x6_1 < (l0_2.length:Int):=of_decide_eq_true (by first|(with_reducible assumption)|assumption)
      obtain ⟨ad3,e3,hx3_0,hx3_1,hx3_2,hx3_3,hx3_4,hx3_5,hx3_6,hx3_7,hx3_8,hx3_9⟩:=at_T56 (Kd.C_kept_now HR0_2.out HK.out) x6_1 p3 q3
      cases e3
      replace p3:=eq_true p3
      replace q3:=eq_true q3
      go_wp2
      go_roundg k1
      case measure=>have:=HK1.out;omega
      case rel=>exact ⟨(x5_1),(wrap64 (x6_1+1)),(by first|rfl|(simp;done)|(simp [*];done)),H',⟨by have:=HK1.out;omega⟩,⟨by (with_reducible repeat (first|apply Kd.R_alloc|apply Kd.R_drewN|apply Kd.R_drew));exact HO_5.out⟩,⟨by (with_reducible repeat (first|apply Kd.R_alloc|apply Kd.R_drewN|apply Kd.R_drew));exact HO_2003.out⟩,⟨by (with_reducible repeat (first|refine blk_drewN ?_ _|refine blk_drew ?_|refine blk_alloc ?_ _));exact BK1.out⟩,⟨by (with_reducible repeat (first|refine blk_drewN ?_ _|refine blk_drew ?_|refine blk_alloc ?_ _));exact BK2.out⟩,⟨by repeat (first|(with_reducible first|exact HK.out|apply Kept.alloc|apply Kept.drewN|apply Kept.drew|refine Kept.setCell ?_ (.inr GW1.out) _|refine Kept.setCell ?_ (.inr GW2.out) _)|exact HK.out)⟩,⟨by repeat (first|(with_reducible first|exact HB.out|apply below_alloc|apply pw_below_drewN|apply below_drew1|refine below_set ?_ GE1.out|refine below_set ?_ GE2.out)|exact HB.out)⟩⟩
     ·
      rw [if_neg c8] at H
      have c8b0:(((rd_T56 l0_2 x6_1).f0) == a1)=false:=beq_eq_false_iff_ne.mpr c8
      have c8b1:(((rd_T56 l0_2 x6_1).f0) != a1)=true:=bne_iff_ne.mpr c8
      by_cases c11:x5_1.length < 1954687338268
      ·
       rw [if_pos c11] at H
       have LMc11:=Aside0.mk c11
       clear c11
       obtain ⟨y5,hy5⟩:∃ y_:List (S56),y_=(x5_1 ++ [(⟨(rd_T56 l0_2 x6_1).f0,(⟨(rd_T56 l0_2 x6_1).f1.f0,(rd_T56 l0_2 x6_1).f1.f1⟩:S54),(rd_T56 l0_2 x6_1).f2,(rd_T56 l0_2 x6_1).f3,(rd_T56 l0_2 x6_1).f4,(rd_T56 l0_2 x6_1).f5,(rd_T56 l0_2 x6_1).f6,(rd_T56 l0_2 x6_1).f7,(rd_T56 l0_2 x6_1).f8⟩:S56)]):=⟨_,rfl⟩
       replace H:(mosaicref18_Table_without.l0 k1 a1 y5 (wrap64 (x6_1+1)) a0_0 a0_1 l0_2 l0_3)=some (r1,r2,r3,r4):=by first|(rw [hy5];with_reducible exact H)|(have H2_:=(Option.bind_some _ _).symm.trans H;rw [hy5];with_reducible exact H2_)|(have H2_:=(Option.bind_some _ _).symm.trans H;with_reducible exact H2_)|with_reducible exact H|(rw [hy5];exact H)|exact H
       have Ny5:=Aside0.mk hy5
       clear hy5
       have H':=Aside0.mk H
       clear H
       have hnb12:=NB1_2.out
       have hnc12:=NB2_1.out
       have hcz13_0:wr.cell? ⟨gb1,0,none⟩=some (.int .i64 a0_0):=(blk_cell BK1.out 0).trans rfl
       have hcz13_1:wr.cell? ⟨gb1,1,none⟩=some (.int .i64 a0_1):=(blk_cell BK1.out 1).trans rfl
       have hcz13_2:wr.cell? ⟨gb1,2,none⟩=some (.slice A0_2 l0_2.length c0_2):=(blk_cell BK1.out 2).trans rfl
       have hcz13_3:wr.cell? ⟨gb1,3,none⟩=some (.slice Ao3 l0_3.length co3):=(blk_cell BK1.out 3).trans rfl
       have hfz13_0:=blk_frozen BK1.out 0
       have hfz13_1:=blk_frozen BK1.out 1
       have hfz13_2:=blk_frozen BK1.out 2
       have hfz13_3:=blk_frozen BK1.out 3
       have p3:0≤(x6_1:Int):=of_decide_eq_true (by first|(with_reducible assumption)|assumption)
       have q3:x6_1 < (l0_2.length:Int):=of_decide_eq_true (by first|(with_reducible assumption)|assumption)
       obtain ⟨ad3,e3,hx3_0,hx3_1,hx3_2,hx3_3,hx3_4,hx3_5,hx3_6,hx3_7,hx3_8,hx3_9⟩:=at_T56 (Kd.C_kept_now HR0_2.out HK.out) x6_1 p3 q3
       cases e3
       replace p3:=eq_true p3
       replace q3:=eq_true q3
       have p4:0≤(x6_1:Int):=of_decide_eq_true (by first|(with_reducible assumption)|assumption)
       have q4:x6_1 < (l0_2.length:Int):=of_decide_eq_true (by first|(with_reducible assumption)|assumption)
       obtain ⟨ad4,e4,hx4_0,hx4_1,hx4_2,hx4_3,hx4_4,hx4_5,hx4_6,hx4_7,hx4_8,hx4_9⟩:=at_T56 (Kd.C_kept_now HR0_2.out HK.out) x6_1 p4 q4
       obtain rfl:ad3=ad4:=(by injection e4)
       replace p4:=eq_true p4
       replace q4:=eq_true q4
       go_wp2_with (first|((with_reducible refine gate_builtin (b:=.append) (xs:=#[.tmp 22,.tmp 28]) rfl ?_);at_builtin;refine Kd.R_append k56 (w0:=w0) w0.heap.size rfl (.tmp 22) (.tmp 28) 43 56 (.agg #[(.int .i64 0),(.int .i64 0),(.int .i64 0),(.string ⟨#[]⟩),(.bool false),(.bool false),(.bool false),(.int .i64 0),(.int .i64 0),(.int .i64 0)]) 72 rfl Try.underlying43 info56 rfl (by decide) (by omega) u5 x5_1 (⟨(rd_T56 l0_2 x6_1).f0,(⟨(rd_T56 l0_2 x6_1).f1.f0,(rd_T56 l0_2 x6_1).f1.f1⟩:S54),(rd_T56 l0_2 x6_1).f2,(rd_T56 l0_2 x6_1).f3,(rd_T56 l0_2 x6_1).f4,(rd_T56 l0_2 x6_1).f5,(rd_T56 l0_2 x6_1).f6,(rd_T56 l0_2 x6_1).f7,(rd_T56 l0_2 x6_1).f8⟩:S56) [.int .i64 ((rd_T56 l0_2 x6_1).f0),.int .i64 ((rd_T56 l0_2 x6_1).f1.f0),.int .i64 ((rd_T56 l0_2 x6_1).f1.f1),.string ((rd_T56 l0_2 x6_1).f2),.bool ((rd_T56 l0_2 x6_1).f3),.bool ((rd_T56 l0_2 x6_1).f4),.bool ((rd_T56 l0_2 x6_1).f5),.int .i64 ((rd_T56 l0_2 x6_1).f6),.int .i64 ((rd_T56 l0_2 x6_1).f7),.int .i64 ((rd_T56 l0_2 x6_1).f8)] (fun k_=>(P0_3_ k_∨w.heap.size≤k_)) (fun _=>False) rfl rfl ?aP (fun _ hk=>hk.elim) ?aF ?aO ?aB ?aS ?aL ?_;(case aP=>exact k56_mkM _ _ _ (⟨(rd_T56 l0_2 x6_1).f0,(⟨(rd_T56 l0_2 x6_1).f1.f0,(rd_T56 l0_2 x6_1).f1.f1⟩:S54),(rd_T56 l0_2 x6_1).f2,(rd_T56 l0_2 x6_1).f3,(rd_T56 l0_2 x6_1).f4,(rd_T56 l0_2 x6_1).f5,(rd_T56 l0_2 x6_1).f6,(rd_T56 l0_2 x6_1).f7,(rd_T56 l0_2 x6_1).f8⟩:S56));(case aB=>exact (by repeat (first|(with_reducible first|exact HB.out|apply below_alloc|apply pw_below_drewN|apply below_drew1|refine below_set ?_ GE1.out|refine below_set ?_ GE2.out)|exact HB.out)));(case aF=>exact (fun k_ hk=>(.inr (Nat.le_trans (by first|exact HK.out.1|exact (show Kept w _ (fun k_=>P0_3_ k_) from by repeat (first|(with_reducible first|exact HK.out|apply Kept.alloc|apply Kept.drewN|apply Kept.drew|refine Kept.setCell ?_ (.inr GW1.out) _|refine Kept.setCell ?_ (.inr GW2.out) _)|exact HK.out)).1) hk))));(case aO=>exact (by (with_reducible repeat (first|apply Kd.R_alloc|apply Kd.R_drewN|apply Kd.R_drew));exact HO_5.out));(case aS=>exact (below_size (by repeat (first|(with_reducible first|exact HB.out|apply below_alloc|apply pw_below_drewN|apply below_drew1|refine below_set ?_ GE1.out|refine below_set ?_ GE2.out)|exact HB.out))));(case aL=>have:=LMc11.out;omega);intro v6 w14 ho hb hg hat;rw [← Ny5.out] at ho;have n0_:=Aside0.mk (Kd.R_over' (by (with_reducible repeat (first|apply Kd.R_alloc|apply Kd.R_drewN|apply Kd.R_drew));exact HO_2003.out) (Kd.R_typed (by (with_reducible repeat (first|apply Kd.R_alloc|apply Kd.R_drewN|apply Kd.R_drew));exact HO_5.out)) (by decide) hg);have n1_:=Aside0.mk (blk_grown (g:=gb1) (o:=.cells #[.int .i64 a0_0,.int .i64 a0_1,.slice (some ad3) l0_2.length c0_2,.slice Ao3 l0_3.length co3] 45 (0,0)) (by (with_reducible repeat (first|refine blk_drewN ?_ _|refine blk_drew ?_|refine blk_alloc ?_ _));exact BK1.out) hg (Kd.R_ne HO_5.out BK1.out (by decide)));have n2_:=Aside0.mk (blk_grown (g:=gb2) (o:=.cells #[.int .i64 0,.int .i64 0,.slice none 0 0,.slice none 0 0] 45 (0,0)) (by (with_reducible repeat (first|refine blk_drewN ?_ _|refine blk_drew ?_|refine blk_alloc ?_ _));exact BK2.out) hg (Kd.R_ne HO_5.out BK2.out (by decide)));have n3_:=Aside0.mk (hb);have n4_:=Aside0.mk (Kept.of_grown (S:=(fun k_=>P0_3_ k_)) hg (by repeat (first|(with_reducible first|exact HK.out|apply Kept.alloc|apply Kept.drewN|apply Kept.drew|refine Kept.setCell ?_ (.inr GW1.out) _|refine Kept.setCell ?_ (.inr GW2.out) _)|exact HK.out)) (fun k_ e_=>(HO_5.out.1 k_ e_)));have n5_:=Aside0.mk (ho);clear HO_2003;clear BK1;clear BK2;clear HB;clear HK;clear HO_5;have HO_2003:=n0_;have BK1:=n1_;have BK2:=n2_;have HB:=n3_;have HK:=n4_;have HO7:=n5_;clear n0_ n1_ n2_ n3_ n4_ n5_;clear ho hb hg hat))
       go_roundg k1
       case measure=>have:=HK1.out;omega
       case rel=>exact ⟨(y5),(wrap64 (x6_1+1)),(by first|rfl|(simp;done)|(simp [*];done)),H',⟨by have:=HK1.out;omega⟩,⟨by (with_reducible repeat (first|apply Kd.R_alloc|apply Kd.R_drewN|apply Kd.R_drew));exact HO7.out⟩,⟨by (with_reducible repeat (first|apply Kd.R_alloc|apply Kd.R_drewN|apply Kd.R_drew));exact HO_2003.out⟩,⟨by (with_reducible repeat (first|refine blk_drewN ?_ _|refine blk_drew ?_|refine blk_alloc ?_ _));exact BK1.out⟩,⟨by (with_reducible repeat (first|refine blk_drewN ?_ _|refine blk_drew ?_|refine blk_alloc ?_ _));exact BK2.out⟩,⟨by repeat (first|(with_reducible first|exact HK.out|apply Kept.alloc|apply Kept.drewN|apply Kept.drew|refine Kept.setCell ?_ (.inr GW1.out) _|refine Kept.setCell ?_ (.inr GW2.out) _)|exact HK.out)⟩,⟨by repeat (first|(with_reducible first|exact HB.out|apply below_alloc|apply pw_below_drewN|apply below_drew1|refine below_set ?_ GE1.out|refine below_set ?_ GE2.out)|exact HB.out)⟩⟩
      ·
       rw [if_neg c11] at H
       exact absurd H (by simp)
    ·
     rw [if_neg c7] at H
     exact absurd H (by simp)
   ·
    rw [if_neg c6] at H
    have c6b0:decide (x6_1 < (l0_2.length:Int))=false:=decide_eq_false c6
    clear c6
    simp only [Option.some.injEq,Prod.mk.injEq] at H
    obtain ⟨rfl,rfl,rfl,rfl⟩:=H
    have hnb15:=NB1_2.out
    have hnc15:=NB2_1.out
    have hcz16_0:wr.cell? ⟨gb1,0,none⟩=some (.int .i64 a0_0):=(blk_cell BK1.out 0).trans rfl
    have hcz16_1:wr.cell? ⟨gb1,1,none⟩=some (.int .i64 a0_1):=(blk_cell BK1.out 1).trans rfl
    have hcz16_2:wr.cell? ⟨gb1,2,none⟩=some (.slice A0_2 l0_2.length c0_2):=(blk_cell BK1.out 2).trans rfl
    have hcz16_3:wr.cell? ⟨gb1,3,none⟩=some (.slice Ao3 l0_3.length co3):=(blk_cell BK1.out 3).trans rfl
    have hfz16_0:=blk_frozen BK1.out 0
    have hfz16_1:=blk_frozen BK1.out 1
    have hfz16_2:=blk_frozen BK1.out 2
    have hfz16_3:=blk_frozen BK1.out 3
    obtain ⟨Ao17,co17,eo17⟩:=Kd.R_slice HO_5.out
    subst eo17
    have hcz18_0:wr.cell? ⟨gb2,0,none⟩=some (.int .i64 0):=(blk_cell BK2.out 0).trans rfl
    have hcz18_1:wr.cell? ⟨gb2,1,none⟩=some (.int .i64 0):=(blk_cell BK2.out 1).trans rfl
    have hcz18_2:wr.cell? ⟨gb2,2,none⟩=some (.slice none 0 0):=(blk_cell BK2.out 2).trans rfl
    have hcz18_3:wr.cell? ⟨gb2,3,none⟩=some (.slice none 0 0):=(blk_cell BK2.out 3).trans rfl
    have hfz18_0:=blk_frozen BK2.out 0
    have hfz18_1:=blk_frozen BK2.out 1
    have hfz18_2:=blk_frozen BK2.out 2
    have hfz18_3:=blk_frozen BK2.out 3
    go_wp2
    refine bodyPost_ret (results_cell_row rfl _ _ gb2 45 #[.int .i64 a0_0,.int .i64 a0_1,.slice Ao17 x5_1.length co17,.slice Ao3 l0_3.length co3] (0,0) _ rfl (by (with_reducible repeat (first|refine blk_drewN ?_ _|refine blk_drew ?_|refine blk_alloc ?_ _));refine blk_put (cs:=#[.int .i64 a0_0,.int .i64 a0_1,.slice Ao17 x5_1.length co17,.slice none 0 0]) ?_ 3 _ rfl;(with_reducible repeat (first|refine blk_drewN ?_ _|refine blk_drew ?_|refine blk_alloc ?_ _));refine blk_put (cs:=#[.int .i64 a0_0,.int .i64 a0_1,.slice none 0 0,.slice none 0 0]) ?_ 2 _ rfl;(with_reducible repeat (first|refine blk_drewN ?_ _|refine blk_drew ?_|refine blk_alloc ?_ _));refine blk_put (cs:=#[.int .i64 a0_0,.int .i64 0,.slice none 0 0,.slice none 0 0]) ?_ 1 _ rfl;(with_reducible repeat (first|refine blk_drewN ?_ _|refine blk_drew ?_|refine blk_alloc ?_ _));refine blk_put (cs:=#[.int .i64 0,.int .i64 0,.slice none 0 0,.slice none 0 0]) ?_ 0 _ rfl;(with_reducible repeat (first|refine blk_drewN ?_ _|refine blk_drew ?_|refine blk_alloc ?_ _));refine blk_far ?_ NB2_1.out _;(with_reducible repeat (first|refine blk_drewN ?_ _|refine blk_drew ?_|refine blk_alloc ?_ _));exact BK2.out) Try.underlying45 rfl (by kernel_rfl)) rfl ?_
    exact ⟨_,_,by first|rfl|(simp [errW_none,errW_some] <;> rfl)|(simp [*,errW_none,errW_some] <;> rfl),by (with_reducible repeat (first|apply Kd.R_alloc|apply Kd.R_drewN|apply Kd.R_drew));exact Kd.R_mono (Kd.R_far (p:=⟨gb2,3,none⟩) (Kd.R_far (p:=⟨gb2,2,none⟩) (Kd.R_far (p:=⟨gb2,1,none⟩) (Kd.R_far (p:=⟨gb2,0,none⟩) (Kd.R_far (p:=⟨gb1,2,none⟩) (Kd.R_types (Kd.R_types HO_5.out BK1.out (by decide)) BK2.out (by decide)) (fun _ hk=>hk.1.2) (.slice Ao17 x5_1.length co17)) (fun _ hk=>hk.2) (.int .i64 a0_0)) (fun _ hk=>hk.2) (.int .i64 a0_1)) (fun _ hk=>hk.2) (.slice Ao17 x5_1.length co17)) (fun _ hk=>hk.2) (.slice Ao3 l0_3.length co3)) (fun _ hk=>hk.1.1),by (with_reducible repeat (first|apply Kd.R_alloc|apply Kd.R_drewN|apply Kd.R_drew));exact Kd.R_mono (Kd.R_far (p:=⟨gb2,3,none⟩) (Kd.R_far (p:=⟨gb2,2,none⟩) (Kd.R_far (p:=⟨gb2,1,none⟩) (Kd.R_far (p:=⟨gb2,0,none⟩) (Kd.R_far (p:=⟨gb1,2,none⟩) (Kd.R_types (Kd.R_types HO_2003.out BK1.out (by decide)) BK2.out (by decide)) (fun _ hk=>hk.1.2) (.slice Ao17 x5_1.length co17)) (fun _ hk=>hk.2) (.int .i64 a0_0)) (fun _ hk=>hk.2) (.int .i64 a0_1)) (fun _ hk=>hk.2) (.slice Ao17 x5_1.length co17)) (fun _ hk=>hk.2) (.slice Ao3 l0_3.length co3)) (fun _ hk=>hk.1.1),by repeat (first|(with_reducible first|exact HB.out|apply below_alloc|apply pw_below_drewN|apply below_drew1|refine below_set ?_ GE1.out|refine below_set ?_ GE2.out)|exact HB.out),by repeat (first|(with_reducible first|exact HK.out|apply Kept.alloc|apply Kept.drewN|apply Kept.drew|refine Kept.setCell ?_ (.inr GW1.out) _|refine Kept.setCell ?_ (.inr GW2.out) _)|exact HK.out)⟩
end Go.Proofs.Ytpejjpecdkbleaa.Print
/-! #### Pr24 -/
namespace Go.Proofs.Ytpejjpecdkbleaa.Print
open Go.RowKit Go.Proofs.YtpejjpecdkbleaaW.PrintWords Go.Proofs.YtpejjpecdkbleaaW.PrintLast Go.Proofs.YtpejjpecdkbleaaW.PrintMore
attribute [local go_sem] max2_int min2_int max_two min_two max_three min_three max_four min_four
set_option linter.unusedVariables false
set_option linter.unusedSimpArgs false
/-! ### mosaicref09_Has: function 24 -/
def mosaicref09_Has.l0:Nat→List Int→Int→Int→Option (Bool)
 | 0,_,_,_=>none
 | k+1,x0,x1,x5=>if x5 < (x0.length:Int) then (if 0≤x5 then (if (rd x0 x5)=x1 then (some true) else (mosaicref09_Has.l0 k x0 x1 (wrap64 (x5+1)))) else (none)) else (some false)
def mosaicref09_Has.f (k:Nat) (l0:List Int) (a1:Int):Option (Bool):=mosaicref09_Has.l0 k l0 a1 0
theorem mosaicref09_Has.mono_l:∀ k,(∀ y0 y1 y2,LeO (mosaicref09_Has.l0 k y0 y1 y2) (mosaicref09_Has.l0 (k+1) y0 y1 y2))
 | 0=>fun _ _ _ r h=>by simp [mosaicref09_Has.l0] at h
 | k+1=>by
  have ih0:=mosaicref09_Has.mono_l k
  ·
   intro y0 y1 y2
   unfold mosaicref09_Has.l0
   repeat' first
   | (with_reducible exact ih0 _ _ _)
   | (with_reducible exact LeO.refl _)
   | (with_reducible exact LeO.none _)
   | (with_reducible refine LeO.ite ?_ ?_)
   | (with_reducible refine LeO.bind ?_ (fun _=>?_))
   | exact ih0 _ _ _
   | exact LeO.none _
   | refine LeO.ite ?_ ?_
   | refine LeO.bind ?_ (fun _=>?_)
theorem mosaicref09_Has.mono:∀ a0 a1 k,LeO (mosaicref09_Has.f k a0 a1) (mosaicref09_Has.f (k+1) a0 a1):=by
 intro a0 a1 k
 have ih0:=mosaicref09_Has.mono_l k
 unfold mosaicref09_Has.f
 repeat' first
   | (with_reducible exact ih0 _ _ _)
   | (with_reducible exact LeO.refl _)
   | (with_reducible exact LeO.none _)
   | (with_reducible refine LeO.ite ?_ ?_)
   | (with_reducible refine LeO.bind ?_ (fun _=>?_))
   | exact ih0 _ _ _
   | exact LeO.none _
   | refine LeO.ite ?_ ?_
   | refine LeO.bind ?_ (fun _=>?_)
set_option maxHeartbeats 8000000 in
set_option maxRecDepth 100000 in
theorem mosaicref09_Has.calls (k:Nat) (A0:Option Addr) (c0:Nat) (l0:List Int) (a1:Int) (r:Bool) (w:World) (hr0:Kd.C (Kd.int .i64) w A0 l0.length l0) (hc0:l0.length≤c0) (h:mosaicref09_Has.f k l0 a1=some r) :
  Calls Try.prog 24 #[.slice A0 l0.length c0,.int .i64 a1] w fun e w'=>e=.returned (.bool r)∧Drawn0 w w':=by
 have HR0:=Aside0.mk hr0
 have HC0:=Aside0.mk hc0
 clear hr0 hc0
 have H:(mosaicref09_Has.l0 k l0 a1 0)=some r:=h
 clear h
 have H':=Aside0.mk H
 clear H
 go_enter Try.func24,Try.ntmps24
 go_wp2
 go_loopg [5] k (fun kq v5 w'=>∃ (x5_1:Int),v5=.int .i64 x5_1∧Aside0 (mosaicref09_Has.l0 kq l0 a1 x5_1=some r)∧Aside0 (kq≤k)∧Drawn0 w w')
 case atStart=>exact ⟨(0),(by first|rfl|(simp;done)|(simp [*];done)),H',⟨Nat.le_refl _⟩,by repeat (first|exact Drawn0.refl _|apply Drawn0.step)⟩
 case round =>
  clear H'
  try clear c2
  try clear p2
  obtain ⟨x5_1,rfl,HA,HK1,⟨m1,rfl⟩⟩:=hrel
  cases gk with
  | zero=>exact absurd HA.out (by simp [mosaicref09_Has.l0])
  | succ k1 =>
   have H:=HA.out
   clear HA
   simp only [mosaicref09_Has.l0] at H
   by_cases c3:x5_1 < (l0.length:Int)
   ·
    rw [if_pos c3] at H
    have c3b0:decide (x5_1 < (l0.length:Int))=true:=decide_eq_true c3
    clear c3
    by_cases c4:0≤x5_1
    ·
     rw [if_pos c4] at H
     have c4b0:decide (0≤x5_1)=true:=decide_eq_true c4
     clear c4
     by_cases c5:(rd l0 x5_1)=a1
     ·
      rw [if_pos c5] at H
      have c5b0:((rd l0 x5_1) == a1)=true:=beq_iff_eq.mpr c5
      have c5b1:((rd l0 x5_1) != a1)=false:=bne_eq_false_iff_eq.mpr c5
      clear c5
      obtain rfl:=Option.some.inj H
      have p1:0≤(x5_1:Int):=of_decide_eq_true (by first|(with_reducible assumption)|assumption)
      have q1:x5_1 < (l0.length:Int):=of_decide_eq_true (by first|(with_reducible assumption)|assumption)
      obtain ⟨ad1,e1,hx1_0⟩:=Kd.at_int HR0.out x5_1 p1 q1
      cases e1
      replace p1:=eq_true p1
      replace q1:=eq_true q1
      go_wp2
      go_ret
      exact ⟨by first|rfl|(simp;done)|(simp [*];done),by repeat (first|exact Drawn0.refl _|apply Drawn0.step)⟩
     ·
      rw [if_neg c5] at H
      have c5b0:((rd l0 x5_1) == a1)=false:=beq_eq_false_iff_ne.mpr c5
      have c5b1:((rd l0 x5_1) != a1)=true:=bne_iff_ne.mpr c5
      have H':=Aside0.mk H
      clear H
      have p1:0≤(x5_1:Int):=of_decide_eq_true (by first|(with_reducible assumption)|assumption)
      have q1:x5_1 < (l0.length:Int):=of_decide_eq_true (by first|(with_reducible assumption)|assumption)
      obtain ⟨ad1,e1,hx1_0⟩:=Kd.at_int HR0.out x5_1 p1 q1
      cases e1
      replace p1:=eq_true p1
      replace q1:=eq_true q1
      go_wp2
      go_roundg k1
      case measure=>have:=HK1.out;omega
      case rel=>exact ⟨(wrap64 (x5_1+1)),(by first|rfl|(simp;done)|(simp [*];done)),H',⟨by have:=HK1.out;omega⟩,by repeat (first|exact Drawn0.refl _|apply Drawn0.step)⟩
    ·
     rw [if_neg c4] at H
     exact absurd H (by simp)
   ·
    rw [if_neg c3] at H
    have c3b0:decide (x5_1 < (l0.length:Int))=false:=decide_eq_false c3
    clear c3
    obtain rfl:=Option.some.inj H
    go_wp2
    go_ret
    exact ⟨by first|rfl|(simp;done)|(simp [*];done),by repeat (first|exact Drawn0.refl _|apply Drawn0.step)⟩
end Go.Proofs.Ytpejjpecdkbleaa.Print
/-! #### Pr26 -/
namespace Go.Proofs.Ytpejjpecdkbleaa.Print
open Go.RowKit Go.Proofs.YtpejjpecdkbleaaW.PrintWords Go.Proofs.YtpejjpecdkbleaaW.PrintLast Go.Proofs.YtpejjpecdkbleaaW.PrintMore
attribute [local go_sem] max2_int min2_int max_two min_two max_three min_three max_four min_four
set_option linter.unusedVariables false
set_option linter.unusedSimpArgs false
/-! ### mosaicref18_Table_Find: function 26 -/
def mosaicref18_Table_Find.l0:Nat→Int→Int→Int→Int→List (S56)→List Int→Option (Int)
 | 0,_,_,_,_,_,_=>none
 | k+1,x1,x5,x2000,x2001,x2002,x2003=>if x5 < (x2002.length:Int) then (if 0≤x5 then (if ((rd_T56 x2002 x5).f0)=x1 then (some x5) else (mosaicref18_Table_Find.l0 k x1 (wrap64 (x5+1)) x2000 x2001 x2002 x2003)) else (none)) else (some (-1))
def mosaicref18_Table_Find.f (k:Nat) (a0_0:Int) (a0_1:Int) (l0_2:List (S56)) (l0_3:List Int) (a1:Int):Option (Int):=mosaicref18_Table_Find.l0 k a1 0 a0_0 a0_1 l0_2 l0_3
theorem mosaicref18_Table_Find.mono_l:∀ k,(∀ y0 y1 y2 y3 y4 y5,LeO (mosaicref18_Table_Find.l0 k y0 y1 y2 y3 y4 y5) (mosaicref18_Table_Find.l0 (k+1) y0 y1 y2 y3 y4 y5))
 | 0=>fun _ _ _ _ _ _ r h=>by simp [mosaicref18_Table_Find.l0] at h
 | k+1=>by
  have ih0:=mosaicref18_Table_Find.mono_l k
  ·
   intro y0 y1 y2 y3 y4 y5
   unfold mosaicref18_Table_Find.l0
   repeat' first
   | (with_reducible exact ih0 _ _ _ _ _ _)
   | (with_reducible exact LeO.refl _)
   | (with_reducible exact LeO.none _)
   | (with_reducible refine LeO.ite ?_ ?_)
   | (with_reducible refine LeO.bind ?_ (fun _=>?_))
   | exact ih0 _ _ _ _ _ _
   | exact LeO.none _
   | refine LeO.ite ?_ ?_
   | refine LeO.bind ?_ (fun _=>?_)
theorem mosaicref18_Table_Find.mono:∀ a0 a1 a2 a3 a4 k,LeO (mosaicref18_Table_Find.f k a0 a1 a2 a3 a4) (mosaicref18_Table_Find.f (k+1) a0 a1 a2 a3 a4):=by
 intro a0 a1 a2 a3 a4 k
 have ih0:=mosaicref18_Table_Find.mono_l k
 unfold mosaicref18_Table_Find.f
 repeat' first
   | (with_reducible exact ih0 _ _ _ _ _ _)
   | (with_reducible exact LeO.refl _)
   | (with_reducible exact LeO.none _)
   | (with_reducible refine LeO.ite ?_ ?_)
   | (with_reducible refine LeO.bind ?_ (fun _=>?_))
   | exact ih0 _ _ _ _ _ _
   | exact LeO.none _
   | refine LeO.ite ?_ ?_
   | refine LeO.bind ?_ (fun _=>?_)
set_option maxHeartbeats 8000000 in
set_option maxRecDepth 100000 in
theorem mosaicref18_Table_Find.calls (k:Nat) (a0_0:Int) (a0_1:Int) (A0_2:Option Addr) (c0_2:Nat) (l0_2:List (S56)) (A0_3:Option Addr) (c0_3:Nat) (l0_3:List Int) (a1:Int) (r:Int) (w:World) (hr0_2:Kd.C k56 w A0_2 l0_2.length l0_2) (hc0_2:l0_2.length≤c0_2) (hr0_3:Kd.C (Kd.int .i64) w A0_3 l0_3.length l0_3) (hc0_3:l0_3.length≤c0_3) (h:mosaicref18_Table_Find.f k a0_0 a0_1 l0_2 l0_3 a1=some r) :
  Calls Try.prog 26 #[.agg #[.int .i64 a0_0,.int .i64 a0_1,.slice A0_2 l0_2.length c0_2,.slice A0_3 l0_3.length c0_3],.int .i64 a1] w fun e w'=>e=.returned (.int .i64 r)∧Below w.heap.size w w':=by
 have hu45:=Try.underlying45
 have HR0_2:=Aside0.mk hr0_2
 have HC0_2:=Aside0.mk hc0_2
 clear hr0_2 hc0_2
 have HR0_3:=Aside0.mk hr0_3
 have HC0_3:=Aside0.mk hc0_3
 clear hr0_3 hc0_3
 have HB:=Aside0.mk (Below.refl w.heap.size w)
 have H:(mosaicref18_Table_Find.l0 k a1 0 a0_0 a0_1 l0_2 l0_3)=some r:=h
 clear h
 have H':=Aside0.mk H
 clear H
 go_enter Try.func26,Try.ntmps26
 go_wp2_with (first|((with_reducible refine gate_dst (N:=2) rfl ?_);refine box_event ?hg (N:=2) ?hd (cs:=#[.int .i64 a0_0,.int .i64 a0_1,.slice A0_2 l0_2.length c0_2,.slice A0_3 l0_3.length c0_3]) (t:=45) ?hr ?_;(case hd=>rfl);(case hg=>rfl);(case hr=>first|(go_simp;done)|(go_simp;rfl));intro gb1 hg w3 hbox hb;have n0_:=Aside0.mk (below_step (by repeat (first|(with_reducible first|exact HB.out|apply below_alloc|apply pw_below_drewN|apply below_drew1)|exact HB.out)) hb);have n1_:=Aside0.mk (hbox);have n2_:=Aside0.mk ((by rw [hg];exact (below_size (by repeat (first|(with_reducible first|exact HB.out|apply below_alloc|apply pw_below_drewN|apply below_drew1)|exact HB.out))):w.heap.size≤gb1));have n3_:=Aside0.mk ((by rw [hg];exact (below_size (by repeat (first|(with_reducible first|exact HB.out|apply below_alloc|apply pw_below_drewN|apply below_drew1)|exact HB.out))):w.heap.size≤gb1));clear HB;have HB:=n0_;have BK1:=n1_;have GW1:=n2_;have GE1:=n3_;clear n0_ n1_ n2_ n3_;clear hb hbox hg))
 go_loopg [5] k (fun kq v5 w'=>∃ (x5_1:Int),v5=.int .i64 x5_1∧Aside0 (mosaicref18_Table_Find.l0 kq a1 x5_1 a0_0 a0_1 l0_2 l0_3=some r)∧Aside0 (kq≤k)∧Aside0 (w'.heap[gb1]?=some (.cells #[.int .i64 a0_0,.int .i64 a0_1,(.slice A0_2 l0_2.length c0_2),(.slice A0_3 l0_3.length c0_3)] 45 (0,0)))∧Aside0 (Below w.heap.size w w'))
 case atStart=>exact ⟨(0),(by first|rfl|(simp;done)|(simp [*];done)),H',⟨Nat.le_refl _⟩,⟨by (with_reducible repeat (first|refine blk_drewN ?_ _|refine blk_drew ?_|refine blk_alloc ?_ _));exact BK1.out⟩,⟨by repeat (first|(with_reducible first|exact HB.out|apply below_alloc|apply pw_below_drewN|apply below_drew1|refine below_set ?_ GE1.out)|exact HB.out)⟩⟩
 case round =>
  clear H'
  try clear c2
  try clear p2
  obtain ⟨x5_1,rfl,HA,HK1,BK1,HB⟩:=hrel
  cases gk with
  | zero=>exact absurd HA.out (by simp [mosaicref18_Table_Find.l0])
  | succ k1 =>
   have H:=HA.out
   clear HA
   simp only [mosaicref18_Table_Find.l0] at H
   by_cases c4:x5_1 < (l0_2.length:Int)
   ·
    rw [if_pos c4] at H
    have c4b0:decide (x5_1 < (l0_2.length:Int))=true:=decide_eq_true c4
    clear c4
    by_cases c5:0≤x5_1
    ·
     rw [if_pos c5] at H
     have c5b0:decide (0≤x5_1)=true:=decide_eq_true c5
     clear c5
     by_cases c6:((rd_T56 l0_2 x5_1).f0)=a1
     ·
      rw [if_pos c6] at H
      have c6b0:(((rd_T56 l0_2 x5_1).f0) == a1)=true:=beq_iff_eq.mpr c6
      have c6b1:(((rd_T56 l0_2 x5_1).f0) != a1)=false:=bne_eq_false_iff_eq.mpr c6
      clear c6
      obtain rfl:=Option.some.inj H
      have hcz7_0:wr.cell? ⟨gb1,0,none⟩=some (.int .i64 a0_0):=(blk_cell BK1.out 0).trans rfl
      have hcz7_1:wr.cell? ⟨gb1,1,none⟩=some (.int .i64 a0_1):=(blk_cell BK1.out 1).trans rfl
      have hcz7_2:wr.cell? ⟨gb1,2,none⟩=some (.slice A0_2 l0_2.length c0_2):=(blk_cell BK1.out 2).trans rfl
      have hcz7_3:wr.cell? ⟨gb1,3,none⟩=some (.slice A0_3 l0_3.length c0_3):=(blk_cell BK1.out 3).trans rfl
      have hfz7_0:=blk_frozen BK1.out 0
      have hfz7_1:=blk_frozen BK1.out 1
      have hfz7_2:=blk_frozen BK1.out 2
      have hfz7_3:=blk_frozen BK1.out 3
      have p2:0≤(x5_1:Int):=of_decide_eq_true (by first|(with_reducible assumption)|assumption)
      have q2:x5_1 < (l0_2.length:Int):=of_decide_eq_true (by first|(with_reducible assumption)|assumption)
      obtain ⟨ad2,e2,hx2_0,hx2_1,hx2_2,hx2_3,hx2_4,hx2_5,hx2_6,hx2_7,hx2_8,hx2_9⟩:=at_T56 HR0_2.out x5_1 p2 q2
      cases e2
      replace hx2_0:=(HB.out.cell (World.block_lt_of_cell? w _ hx2_0)).trans hx2_0
      replace hx2_1:=(HB.out.cell (World.block_lt_of_cell? w _ hx2_1)).trans hx2_1
      replace hx2_2:=(HB.out.cell (World.block_lt_of_cell? w _ hx2_2)).trans hx2_2
      replace hx2_3:=(HB.out.cell (World.block_lt_of_cell? w _ hx2_3)).trans hx2_3
      replace hx2_4:=(HB.out.cell (World.block_lt_of_cell? w _ hx2_4)).trans hx2_4
      replace hx2_5:=(HB.out.cell (World.block_lt_of_cell? w _ hx2_5)).trans hx2_5
      replace hx2_6:=(HB.out.cell (World.block_lt_of_cell? w _ hx2_6)).trans hx2_6
      replace hx2_7:=(HB.out.cell (World.block_lt_of_cell? w _ hx2_7)).trans hx2_7
      replace hx2_8:=(HB.out.cell (World.block_lt_of_cell? w _ hx2_8)).trans hx2_8
      replace hx2_9:=(HB.out.cell (World.block_lt_of_cell? w _ hx2_9)).trans hx2_9
      replace p2:=eq_true p2
      replace q2:=eq_true q2
      go_wp2
      go_ret
      exact ⟨by first|rfl|(simp [errW_none,errW_some] <;> rfl)|(simp [*,errW_none,errW_some] <;> rfl),by repeat (first|(with_reducible first|exact HB.out|apply below_alloc|apply pw_below_drewN|apply below_drew1|refine below_set ?_ GE1.out)|exact HB.out)⟩
     ·
      rw [if_neg c6] at H
      have c6b0:(((rd_T56 l0_2 x5_1).f0) == a1)=false:=beq_eq_false_iff_ne.mpr c6
      have c6b1:(((rd_T56 l0_2 x5_1).f0) != a1)=true:=bne_iff_ne.mpr c6
      have H':=Aside0.mk H
      clear H
      have hcz8_0:wr.cell? ⟨gb1,0,none⟩=some (.int .i64 a0_0):=(blk_cell BK1.out 0).trans rfl
      have hcz8_1:wr.cell? ⟨gb1,1,none⟩=some (.int .i64 a0_1):=(blk_cell BK1.out 1).trans rfl
      have hcz8_2:wr.cell? ⟨gb1,2,none⟩=some (.slice A0_2 l0_2.length c0_2):=(blk_cell BK1.out 2).trans rfl
      have hcz8_3:wr.cell? ⟨gb1,3,none⟩=some (.slice A0_3 l0_3.length c0_3):=(blk_cell BK1.out 3).trans rfl
      have hfz8_0:=blk_frozen BK1.out 0
      have hfz8_1:=blk_frozen BK1.out 1
      have hfz8_2:=blk_frozen BK1.out 2
      have hfz8_3:=blk_frozen BK1.out 3
      have p2:0≤(x5_1:Int):=of_decide_eq_true (by first|(with_reducible assumption)|assumption)
      have q2:x5_1 < (l0_2.length:Int):=of_decide_eq_true (by first|(with_reducible assumption)|assumption)
      obtain ⟨ad2,e2,hx2_0,hx2_1,hx2_2,hx2_3,hx2_4,hx2_5,hx2_6,hx2_7,hx2_8,hx2_9⟩:=at_T56 HR0_2.out x5_1 p2 q2
      cases e2
      replace hx2_0:=(HB.out.cell (World.block_lt_of_cell? w _ hx2_0)).trans hx2_0
      replace hx2_1:=(HB.out.cell (World.block_lt_of_cell? w _ hx2_1)).trans hx2_1
      replace hx2_2:=(HB.out.cell (World.block_lt_of_cell? w _ hx2_2)).trans hx2_2
      replace hx2_3:=(HB.out.cell (World.block_lt_of_cell? w _ hx2_3)).trans hx2_3
      replace hx2_4:=(HB.out.cell (World.block_lt_of_cell? w _ hx2_4)).trans hx2_4
      replace hx2_5:=(HB.out.cell (World.block_lt_of_cell? w _ hx2_5)).trans hx2_5
      replace hx2_6:=(HB.out.cell (World.block_lt_of_cell? w _ hx2_6)).trans hx2_6
      replace hx2_7:=(HB.out.cell (World.block_lt_of_cell? w _ hx2_7)).trans hx2_7
      replace hx2_8:=(HB.out.cell (World.block_lt_of_cell? w _ hx2_8)).trans hx2_8
      replace hx2_9:=(HB.out.cell (World.block_lt_of_cell? w _ hx2_9)).trans hx2_9
      replace p2:=eq_true p2
      replace q2:=eq_true q2
      go_wp2
      go_roundg k1
      case measure=>have:=HK1.out;omega
      case rel=>exact ⟨(wrap64 (x5_1+1)),(by first|rfl|(simp;done)|(simp [*];done)),H',⟨by have:=HK1.out;omega⟩,⟨by (with_reducible repeat (first|refine blk_drewN ?_ _|refine blk_drew ?_|refine blk_alloc ?_ _));exact BK1.out⟩,⟨by repeat (first|(with_reducible first|exact HB.out|apply below_alloc|apply pw_below_drewN|apply below_drew1|refine below_set ?_ GE1.out)|exact HB.out)⟩⟩
    ·
     rw [if_neg c5] at H
     exact absurd H (by simp)
   ·
    rw [if_neg c4] at H
    have c4b0:decide (x5_1 < (l0_2.length:Int))=false:=decide_eq_false c4
    clear c4
    obtain rfl:=Option.some.inj H
    have hcz9_0:wr.cell? ⟨gb1,0,none⟩=some (.int .i64 a0_0):=(blk_cell BK1.out 0).trans rfl
    have hcz9_1:wr.cell? ⟨gb1,1,none⟩=some (.int .i64 a0_1):=(blk_cell BK1.out 1).trans rfl
    have hcz9_2:wr.cell? ⟨gb1,2,none⟩=some (.slice A0_2 l0_2.length c0_2):=(blk_cell BK1.out 2).trans rfl
    have hcz9_3:wr.cell? ⟨gb1,3,none⟩=some (.slice A0_3 l0_3.length c0_3):=(blk_cell BK1.out 3).trans rfl
    have hfz9_0:=blk_frozen BK1.out 0
    have hfz9_1:=blk_frozen BK1.out 1
    have hfz9_2:=blk_frozen BK1.out 2
    have hfz9_3:=blk_frozen BK1.out 3
    go_wp2
    go_ret
    exact ⟨by first|rfl|(simp [errW_none,errW_some] <;> rfl)|(simp [*,errW_none,errW_some] <;> rfl),by repeat (first|(with_reducible first|exact HB.out|apply below_alloc|apply pw_below_drewN|apply below_drew1|refine below_set ?_ GE1.out)|exact HB.out)⟩
end Go.Proofs.Ytpejjpecdkbleaa.Print
/-! #### Pr54 -/
namespace Go.Proofs.Ytpejjpecdkbleaa.Print
open Go.RowKit Go.Proofs.YtpejjpecdkbleaaW.PrintWords Go.Proofs.YtpejjpecdkbleaaW.PrintLast Go.Proofs.YtpejjpecdkbleaaW.PrintMore
attribute [local go_sem] max2_int min2_int max_two min_two max_three min_three max_four min_four
set_option linter.unusedVariables false
set_option linter.unusedSimpArgs false
/-! ### mosaicref18_Table_Leave: function 54 -/
def mosaicref18_Table_Leave.f (k:Nat) (a0_0:Int) (a0_1:Int) (l0_2:List (S56)) (l0_3:List Int) (a1:Int):Option (Int×Int×(List (S56))×List Int×Int):=(mosaicref18_Table_Find.f k a0_0 a0_1 l0_2 l0_3 a1).bind fun t3=>(if t3 < 0 then (some (a0_0,a0_1,l0_2,l0_3,4)) else ((mosaicref18_Table_without.f k a0_0 a0_1 l0_2 l0_3 a1).bind fun bt4=>(some (bt4.1,bt4.2.1,bt4.2.2.1,bt4.2.2.2,0))))
theorem mosaicref18_Table_Leave.mono:∀ a0 a1 a2 a3 a4 k,LeO (mosaicref18_Table_Leave.f k a0 a1 a2 a3 a4) (mosaicref18_Table_Leave.f (k+1) a0 a1 a2 a3 a4):=by
 intro a0 a1 a2 a3 a4 k
 unfold mosaicref18_Table_Leave.f
 repeat' first
   | (with_reducible exact mosaicref18_Table_Find.mono _ _ _ _ _ _)
   | (with_reducible exact mosaicref18_Table_without.mono _ _ _ _ _ _)
   | (with_reducible exact LeO.refl _)
   | (with_reducible exact LeO.none _)
   | (with_reducible refine LeO.ite ?_ ?_)
   | (with_reducible refine LeO.bind ?_ (fun _=>?_))
   | exact mosaicref18_Table_Find.mono _ _ _ _ _ _
   | exact mosaicref18_Table_without.mono _ _ _ _ _ _
   | exact LeO.none _
   | refine LeO.ite ?_ ?_
   | refine LeO.bind ?_ (fun _=>?_)
set_option maxHeartbeats 8000000 in
set_option maxRecDepth 100000 in
theorem mosaicref18_Table_Leave.calls (k:Nat) (a0_0:Int) (a0_1:Int) (P0_2_:Nat→Prop) (u9000_:Value) (l0_2:List (S56)) (P0_3_:Nat→Prop) (u9001_:Value) (l0_3:List Int) (a1:Int) (r1:Int) (r2:Int) (r3:List (S56)) (r4:List Int) (r5:Int) (w0 w:World) (hB:Below w0.heap.size w0 w) (ho0_2:Kd.R k56 56 w w0.heap.size P0_2_ u9000_ l0_2) (ho0_3:Kd.R (Kd.int .i64) 3 w w0.heap.size P0_3_ u9001_ l0_3) (h:mosaicref18_Table_Leave.f k a0_0 a0_1 l0_2 l0_3 a1=some (r1,r2,r3,r4,r5)) :
  Calls Try.prog 54 #[.agg #[.int .i64 a0_0,.int .i64 a0_1,u9000_,u9001_],.int .i64 a1] w fun e w'=>∃ v2_ v3_:Value,e=.returned (.tuple #[.agg #[.int .i64 r1,.int .i64 r2,v2_,v3_],.int .i64 r5])∧Kd.R k56 56 w' w0.heap.size (fun k_=>((P0_2_ k_∨P0_3_ k_)∨w.heap.size≤k_)) v2_ r3∧Kd.R (Kd.int .i64) 3 w' w0.heap.size (fun k_=>((P0_2_ k_∨P0_3_ k_)∨w.heap.size≤k_)) v3_ r4∧Below w0.heap.size w0 w'∧Kept w w' (fun k_=>P0_2_ k_∨P0_3_ k_):=by
 have hu45:=Try.underlying45
 have HO0_2:=Aside0.mk (show Kd.R k56 56 w w0.heap.size (fun k_=>((P0_2_ k_∨P0_3_ k_)∨w.heap.size≤k_)) u9000_ l0_2 from Kd.R_mono ho0_2 (fun k_ hk=>(.inl (.inl hk))))
 have HO0_3:=Aside0.mk (show Kd.R (Kd.int .i64) 3 w w0.heap.size (fun k_=>((P0_2_ k_∨P0_3_ k_)∨w.heap.size≤k_)) u9001_ l0_3 from Kd.R_mono ho0_3 (fun k_ hk=>(.inl (.inr hk))))
 have HK:=Aside0.mk (Kept.refl w (fun k_=>P0_2_ k_∨P0_3_ k_))
 have HW0:=Aside0.mk hB.size
 have HB:=Aside0.mk hB
 clear hB
 have H:((mosaicref18_Table_Find.f k a0_0 a0_1 l0_2 l0_3 a1).bind fun t3=>(if t3 < 0 then (some (a0_0,a0_1,l0_2,l0_3,4)) else ((mosaicref18_Table_without.f k a0_0 a0_1 l0_2 l0_3 a1).bind fun bt4=>(some (bt4.1,bt4.2.1,bt4.2.2.1,bt4.2.2.2,0)))))=some (r1,r2,r3,r4,r5):=h
 clear h
 replace H:=Option.bind_eq_some_iff.mp H
 obtain ⟨t3,A30,H⟩:=H
 replace H:(if t3 < 0 then (some (a0_0,a0_1,l0_2,l0_3,4)) else ((mosaicref18_Table_without.f k a0_0 a0_1 l0_2 l0_3 a1).bind fun bt4=>(some (bt4.1,bt4.2.1,bt4.2.2.1,bt4.2.2.2,0))))=some (r1,r2,r3,r4,r5):=H
 have A3:=Aside0.mk A30
 clear A30
 by_cases c4:t3 < 0
 ·
  rw [if_pos c4] at H
  have c4b0:decide (t3 < 0)=true:=decide_eq_true c4
  clear c4
  simp only [Option.some.injEq,Prod.mk.injEq] at H
  obtain ⟨rfl,rfl,rfl,rfl,rfl⟩:=H
  obtain ⟨Ao5,co5,eo5⟩:=Kd.R_slice HO0_2.out
  subst eo5
  obtain ⟨Ao6,co6,eo6⟩:=Kd.R_slice HO0_3.out
  subst eo6
  go_enter Try.func54,Try.ntmps54
  go_wp2_with (first|((with_reducible refine gate_dst (N:=2) rfl ?_);refine box_event ?hg (N:=2) ?hd (cs:=#[.int .i64 a0_0,.int .i64 a0_1,.slice Ao5 l0_2.length co5,.slice Ao6 l0_3.length co6]) (t:=45) ?hr ?_;(case hd=>rfl);(case hg=>rfl);(case hr=>first|(go_simp;done)|(go_simp;rfl));intro gb1 hg w7 hbox hb;have n0_:=Aside0.mk (Kd.R_below (by (with_reducible repeat (first|apply Kd.R_alloc|apply Kd.R_drewN|apply Kd.R_drew));exact HO0_2.out) hb);have n1_:=Aside0.mk (Kd.R_below (by (with_reducible repeat (first|apply Kd.R_alloc|apply Kd.R_drewN|apply Kd.R_drew));exact HO0_3.out) hb);have n2_:=Aside0.mk (Kept.below (S:=(fun k_=>P0_2_ k_∨P0_3_ k_)) (by repeat (first|(with_reducible first|exact HK.out|apply Kept.alloc|apply Kept.drewN|apply Kept.drew)|exact HK.out)) hb);have n3_:=Aside0.mk (below_step (by repeat (first|(with_reducible first|exact HB.out|apply below_alloc|apply pw_below_drewN|apply below_drew1)|exact HB.out)) hb);have n4_:=Aside0.mk (hbox);have n5_:=Aside0.mk ((by rw [hg];exact (by first|exact HK.out.1|exact (show Kept w _ (fun k_=>P0_2_ k_∨P0_3_ k_) from by repeat (first|(with_reducible first|exact HK.out|apply Kept.alloc|apply Kept.drewN|apply Kept.drew)|exact HK.out)).1):w.heap.size≤gb1));have n6_:=Aside0.mk ((by rw [hg];exact (below_size (by repeat (first|(with_reducible first|exact HB.out|apply below_alloc|apply pw_below_drewN|apply below_drew1)|exact HB.out))):w0.heap.size≤gb1));clear HO0_2;clear HO0_3;clear HK;clear HB;have HO0_2:=n0_;have HO0_3:=n1_;have HK:=n2_;have HB:=n3_;have BK1:=n4_;have GW1:=n5_;have GE1:=n6_;clear n0_ n1_ n2_ n3_ n4_ n5_ n6_;clear hb hbox hg)|((with_reducible refine gate_dst (N:=4) rfl ?_);refine box_event ?hg (N:=4) ?hd (cs:=#[.int .i64 0,.int .i64 0,.slice none 0 0,.slice none 0 0]) (t:=45) ?hr ?_;(case hd=>rfl);(case hg=>rfl);(case hr=>first|(go_simp;done)|(go_simp;rfl));intro gb2 hg w8 hbox hb;have n0_:=Aside0.mk (Kd.R_below (by (with_reducible repeat (first|apply Kd.R_alloc|apply Kd.R_drewN|apply Kd.R_drew));exact HO0_2.out) hb);have n1_:=Aside0.mk (Kd.R_below (by (with_reducible repeat (first|apply Kd.R_alloc|apply Kd.R_drewN|apply Kd.R_drew));exact HO0_3.out) hb);have n2_:=Aside0.mk (blk_below (g:=gb1) (o:=.cells #[.int .i64 a0_0,.int .i64 a0_1,.slice Ao5 l0_2.length co5,.slice Ao6 l0_3.length co6] 45 (0,0)) (by (with_reducible repeat (first|refine blk_drewN ?_ _|refine blk_drew ?_|refine blk_alloc ?_ _));exact BK1.out) hb);have n3_:=Aside0.mk (Kept.below (S:=(fun k_=>P0_2_ k_∨P0_3_ k_)) (by repeat (first|(with_reducible first|exact HK.out|apply Kept.alloc|apply Kept.drewN|apply Kept.drew|refine Kept.setCell ?_ (.inr GW1.out) _)|exact HK.out)) hb);have n4_:=Aside0.mk (below_step (by repeat (first|(with_reducible first|exact HB.out|apply below_alloc|apply pw_below_drewN|apply below_drew1|refine below_set ?_ GE1.out)|exact HB.out)) hb);have n5_:=Aside0.mk (hbox);have n6_:=Aside0.mk ((by rw [hg];exact (by first|exact HK.out.1|exact (show Kept w _ (fun k_=>P0_2_ k_∨P0_3_ k_) from by repeat (first|(with_reducible first|exact HK.out|apply Kept.alloc|apply Kept.drewN|apply Kept.drew|refine Kept.setCell ?_ (.inr GW1.out) _)|exact HK.out)).1):w.heap.size≤gb2));have n7_:=Aside0.mk ((by rw [hg];exact (below_size (by repeat (first|(with_reducible first|exact HB.out|apply below_alloc|apply pw_below_drewN|apply below_drew1|refine below_set ?_ GE1.out)|exact HB.out))):w0.heap.size≤gb2));have n8_:=Aside0.mk ((by rw [hg];exact Nat.ne_of_lt (blk_lt (g:=gb1) (o:=.cells #[.int .i64 a0_0,.int .i64 a0_1,.slice Ao5 l0_2.length co5,.slice Ao6 l0_3.length co6] 45 (0,0)) (by (with_reducible repeat (first|refine blk_drewN ?_ _|refine blk_drew ?_|refine blk_alloc ?_ _));exact BK1.out)):gb1≠gb2));have n9_:=Aside0.mk ((by rw [hg];exact Nat.ne_of_gt (blk_lt (g:=gb1) (o:=.cells #[.int .i64 a0_0,.int .i64 a0_1,.slice Ao5 l0_2.length co5,.slice Ao6 l0_3.length co6] 45 (0,0)) (by (with_reducible repeat (first|refine blk_drewN ?_ _|refine blk_drew ?_|refine blk_alloc ?_ _));exact BK1.out)):gb2≠gb1));clear HO0_2;clear HO0_3;clear BK1;clear HK;clear HB;have HO0_2:=n0_;have HO0_3:=n1_;have BK1:=n2_;have HK:=n3_;have HB:=n4_;have BK2:=n5_;have GW2:=n6_;have GE2:=n7_;have NB1_2:=n8_;have NB2_1:=n9_;clear n0_ n1_ n2_ n3_ n4_ n5_ n6_ n7_ n8_ n9_;clear hb hbox hg;have hnb9:=NB1_2.out;have hnc9:=NB2_1.out;have hcz10_0:w8.cell? ⟨gb1,0,none⟩=some (.int .i64 a0_0):=(blk_cell BK1.out 0).trans rfl;have hcz10_1:w8.cell? ⟨gb1,1,none⟩=some (.int .i64 a0_1):=(blk_cell BK1.out 1).trans rfl;have hcz10_2:w8.cell? ⟨gb1,2,none⟩=some (.slice Ao5 l0_2.length co5):=(blk_cell BK1.out 2).trans rfl;have hcz10_3:w8.cell? ⟨gb1,3,none⟩=some (.slice Ao6 l0_3.length co6):=(blk_cell BK1.out 3).trans rfl;have hfz10_0:=blk_frozen BK1.out 0;have hfz10_1:=blk_frozen BK1.out 1;have hfz10_2:=blk_frozen BK1.out 2;have hfz10_3:=blk_frozen BK1.out 3)|((with_reducible refine gate_callee (f:=26) rfl ?_);refine goesL_ (some 8) rfl rfl Try.func26 (by kernel_rfl) rfl #[.agg #[.int .i64 a0_0,.int .i64 a0_1,.slice Ao5 l0_2.length co5,.slice Ao6 l0_3.length co6],.int .i64 a1] rfl (by (try simp only [List.map_toArray,List.map_cons,List.map_nil]);first|done|rfl|(simp only [List.length_drop,List.length_take];rfl)) ?_;(with_reducible refine (mosaicref18_Table_Find.calls k a0_0 a0_1 _ _ l0_2 _ _ l0_3 a1 t3 _ ?side1 ?side2 ?side3 ?side4 A3.out).mono ?_);(case side1=>repeat (first|exact (Kd.R_reads' HO0_2.out).2.2|(with_reducible refine Kd.C_alloc ?_ _)|(with_reducible refine Kd.C_drewN ?_ _)|(with_reducible refine Kd.C_drew ?_)));(case side2=>exact (Kd.R_reads' HO0_2.out).2.1);(case side3=>repeat (first|exact (Kd.R_reads' HO0_3.out).2.2|(with_reducible refine Kd.C_alloc ?_ _)|(with_reducible refine Kd.C_drewN ?_ _)|(with_reducible refine Kd.C_drew ?_)));(case side4=>exact (Kd.R_reads' HO0_3.out).2.1);rintro e w11 ⟨rfl,hb⟩;refine ⟨_,rfl,?_⟩;have n0_:=Aside0.mk (Kd.R_below (by (with_reducible repeat (first|apply Kd.R_alloc|apply Kd.R_drewN|apply Kd.R_drew));exact HO0_2.out) hb);have n1_:=Aside0.mk (Kd.R_below (by (with_reducible repeat (first|apply Kd.R_alloc|apply Kd.R_drewN|apply Kd.R_drew));exact HO0_3.out) hb);have n2_:=Aside0.mk (blk_below (g:=gb1) (o:=.cells #[.int .i64 a0_0,.int .i64 a0_1,.slice Ao5 l0_2.length co5,.slice Ao6 l0_3.length co6] 45 (0,0)) (by (with_reducible repeat (first|refine blk_drewN ?_ _|refine blk_drew ?_|refine blk_alloc ?_ _));exact BK1.out) hb);have n3_:=Aside0.mk (blk_below (g:=gb2) (o:=.cells #[.int .i64 0,.int .i64 0,.slice none 0 0,.slice none 0 0] 45 (0,0)) (by (with_reducible repeat (first|refine blk_drewN ?_ _|refine blk_drew ?_|refine blk_alloc ?_ _));exact BK2.out) hb);have n4_:=Aside0.mk (Kept.below (S:=(fun k_=>P0_2_ k_∨P0_3_ k_)) (by repeat (first|(with_reducible first|exact HK.out|apply Kept.alloc|apply Kept.drewN|apply Kept.drew|refine Kept.setCell ?_ (.inr GW1.out) _|refine Kept.setCell ?_ (.inr GW2.out) _)|exact HK.out)) hb);have n5_:=Aside0.mk (below_step (by repeat (first|(with_reducible first|exact HB.out|apply below_alloc|apply pw_below_drewN|apply below_drew1|refine below_set ?_ GE1.out|refine below_set ?_ GE2.out)|exact HB.out)) hb);clear HO0_2;clear HO0_3;clear BK1;clear BK2;clear HK;clear HB;have HO0_2:=n0_;have HO0_3:=n1_;have BK1:=n2_;have BK2:=n3_;have HK:=n4_;have HB:=n5_;clear n0_ n1_ n2_ n3_ n4_ n5_;(try clear hb);(try clear hb2);(try clear hk);(try clear hi);have hcz12_0:w11.cell? ⟨gb1,0,none⟩=some (.int .i64 a0_0):=(blk_cell BK1.out 0).trans rfl;have hcz12_1:w11.cell? ⟨gb1,1,none⟩=some (.int .i64 a0_1):=(blk_cell BK1.out 1).trans rfl;have hcz12_2:w11.cell? ⟨gb1,2,none⟩=some (.slice Ao5 l0_2.length co5):=(blk_cell BK1.out 2).trans rfl;have hcz12_3:w11.cell? ⟨gb1,3,none⟩=some (.slice Ao6 l0_3.length co6):=(blk_cell BK1.out 3).trans rfl;have hfz12_0:=blk_frozen BK1.out 0;have hfz12_1:=blk_frozen BK1.out 1;have hfz12_2:=blk_frozen BK1.out 2;have hfz12_3:=blk_frozen BK1.out 3;have hcz13_0:w11.cell? ⟨gb2,0,none⟩=some (.int .i64 0):=(blk_cell BK2.out 0).trans rfl;have hcz13_1:w11.cell? ⟨gb2,1,none⟩=some (.int .i64 0):=(blk_cell BK2.out 1).trans rfl;have hcz13_2:w11.cell? ⟨gb2,2,none⟩=some (.slice none 0 0):=(blk_cell BK2.out 2).trans rfl;have hcz13_3:w11.cell? ⟨gb2,3,none⟩=some (.slice none 0 0):=(blk_cell BK2.out 3).trans rfl;have hfz13_0:=blk_frozen BK2.out 0;have hfz13_1:=blk_frozen BK2.out 1;have hfz13_2:=blk_frozen BK2.out 2;have hfz13_3:=blk_frozen BK2.out 3))
  refine bodyPost_ret (results_ct rfl _ _ gb2 45 #[.int .i64 a0_0,.int .i64 a0_1,.slice Ao5 l0_2.length co5,.slice Ao6 l0_3.length co6] (0,0) _ rfl (by (with_reducible repeat (first|refine blk_drewN ?_ _|refine blk_drew ?_|refine blk_alloc ?_ _));refine blk_put (cs:=#[.int .i64 a0_0,.int .i64 a0_1,.slice Ao5 l0_2.length co5,.slice none 0 0]) ?_ 3 _ rfl;(with_reducible repeat (first|refine blk_drewN ?_ _|refine blk_drew ?_|refine blk_alloc ?_ _));refine blk_put (cs:=#[.int .i64 a0_0,.int .i64 a0_1,.slice none 0 0,.slice none 0 0]) ?_ 2 _ rfl;(with_reducible repeat (first|refine blk_drewN ?_ _|refine blk_drew ?_|refine blk_alloc ?_ _));refine blk_put (cs:=#[.int .i64 a0_0,.int .i64 0,.slice none 0 0,.slice none 0 0]) ?_ 1 _ rfl;(with_reducible repeat (first|refine blk_drewN ?_ _|refine blk_drew ?_|refine blk_alloc ?_ _));refine blk_put (cs:=#[.int .i64 0,.int .i64 0,.slice none 0 0,.slice none 0 0]) ?_ 0 _ rfl;(with_reducible repeat (first|refine blk_drewN ?_ _|refine blk_drew ?_|refine blk_alloc ?_ _));exact BK2.out) Try.underlying45 rfl (by kernel_rfl)) rfl ?_
  exact ⟨_,_,by first|rfl|(simp [errW_none,errW_some] <;> rfl)|(simp [*,errW_none,errW_some] <;> rfl),by (with_reducible repeat (first|apply Kd.R_alloc|apply Kd.R_drewN|apply Kd.R_drew));exact Kd.R_mono (Kd.R_far (p:=⟨gb2,3,none⟩) (Kd.R_far (p:=⟨gb2,2,none⟩) (Kd.R_far (p:=⟨gb2,1,none⟩) (Kd.R_far (p:=⟨gb2,0,none⟩) (Kd.R_types HO0_2.out BK2.out (by decide)) (fun _ hk=>hk.2) (.int .i64 a0_0)) (fun _ hk=>hk.2) (.int .i64 a0_1)) (fun _ hk=>hk.2) (.slice Ao5 l0_2.length co5)) (fun _ hk=>hk.2) (.slice Ao6 l0_3.length co6)) (fun _ hk=>hk.1),by (with_reducible repeat (first|apply Kd.R_alloc|apply Kd.R_drewN|apply Kd.R_drew));exact Kd.R_mono (Kd.R_far (p:=⟨gb2,3,none⟩) (Kd.R_far (p:=⟨gb2,2,none⟩) (Kd.R_far (p:=⟨gb2,1,none⟩) (Kd.R_far (p:=⟨gb2,0,none⟩) (Kd.R_types HO0_3.out BK2.out (by decide)) (fun _ hk=>hk.2) (.int .i64 a0_0)) (fun _ hk=>hk.2) (.int .i64 a0_1)) (fun _ hk=>hk.2) (.slice Ao5 l0_2.length co5)) (fun _ hk=>hk.2) (.slice Ao6 l0_3.length co6)) (fun _ hk=>hk.1),by repeat (first|(with_reducible first|exact HB.out|apply below_alloc|apply pw_below_drewN|apply below_drew1|refine below_set ?_ GE1.out|refine below_set ?_ GE2.out)|exact HB.out),by repeat (first|(with_reducible first|exact HK.out|apply Kept.alloc|apply Kept.drewN|apply Kept.drew|refine Kept.setCell ?_ (.inr GW1.out) _|refine Kept.setCell ?_ (.inr GW2.out) _)|exact HK.out)⟩
 ·
  rw [if_neg c4] at H
  have c4b0:decide (t3 < 0)=false:=decide_eq_false c4
  clear c4
  replace H:=Option.bind_eq_some_iff.mp H
  obtain ⟨⟨t4,t5,t6,t9⟩,A140,H⟩:=H
  replace H:(some (t4,t5,t6,t9,0))=some (r1,r2,r3,r4,r5):=H
  have A14:=Aside0.mk A140
  clear A140
  simp only [Option.some.injEq,Prod.mk.injEq] at H
  obtain ⟨rfl,rfl,rfl,rfl,rfl⟩:=H
  obtain ⟨Ao15,co15,eo15⟩:=Kd.R_slice HO0_2.out
  subst eo15
  obtain ⟨Ao16,co16,eo16⟩:=Kd.R_slice HO0_3.out
  subst eo16
  go_enter Try.func54,Try.ntmps54
  go_wp2_with (first|((with_reducible refine gate_dst (N:=2) rfl ?_);refine box_event ?hg (N:=2) ?hd (cs:=#[.int .i64 a0_0,.int .i64 a0_1,.slice Ao15 l0_2.length co15,.slice Ao16 l0_3.length co16]) (t:=45) ?hr ?_;(case hd=>rfl);(case hg=>rfl);(case hr=>first|(go_simp;done)|(go_simp;rfl));intro gb1 hg w17 hbox hb;have n0_:=Aside0.mk (Kd.R_below (by (with_reducible repeat (first|apply Kd.R_alloc|apply Kd.R_drewN|apply Kd.R_drew));exact HO0_2.out) hb);have n1_:=Aside0.mk (Kd.R_below (by (with_reducible repeat (first|apply Kd.R_alloc|apply Kd.R_drewN|apply Kd.R_drew));exact HO0_3.out) hb);have n2_:=Aside0.mk (Kept.below (S:=(fun k_=>P0_2_ k_∨P0_3_ k_)) (by repeat (first|(with_reducible first|exact HK.out|apply Kept.alloc|apply Kept.drewN|apply Kept.drew)|exact HK.out)) hb);have n3_:=Aside0.mk (below_step (by repeat (first|(with_reducible first|exact HB.out|apply below_alloc|apply pw_below_drewN|apply below_drew1)|exact HB.out)) hb);have n4_:=Aside0.mk (hbox);have n5_:=Aside0.mk ((by rw [hg];exact (by first|exact HK.out.1|exact (show Kept w _ (fun k_=>P0_2_ k_∨P0_3_ k_) from by repeat (first|(with_reducible first|exact HK.out|apply Kept.alloc|apply Kept.drewN|apply Kept.drew)|exact HK.out)).1):w.heap.size≤gb1));have n6_:=Aside0.mk ((by rw [hg];exact (below_size (by repeat (first|(with_reducible first|exact HB.out|apply below_alloc|apply pw_below_drewN|apply below_drew1)|exact HB.out))):w0.heap.size≤gb1));clear HO0_2;clear HO0_3;clear HK;clear HB;have HO0_2:=n0_;have HO0_3:=n1_;have HK:=n2_;have HB:=n3_;have BK1:=n4_;have GW1:=n5_;have GE1:=n6_;clear n0_ n1_ n2_ n3_ n4_ n5_ n6_;clear hb hbox hg)|((with_reducible refine gate_dst (N:=4) rfl ?_);refine box_event ?hg (N:=4) ?hd (cs:=#[.int .i64 0,.int .i64 0,.slice none 0 0,.slice none 0 0]) (t:=45) ?hr ?_;(case hd=>rfl);(case hg=>rfl);(case hr=>first|(go_simp;done)|(go_simp;rfl));intro gb2 hg w18 hbox hb;have n0_:=Aside0.mk (Kd.R_below (by (with_reducible repeat (first|apply Kd.R_alloc|apply Kd.R_drewN|apply Kd.R_drew));exact HO0_2.out) hb);have n1_:=Aside0.mk (Kd.R_below (by (with_reducible repeat (first|apply Kd.R_alloc|apply Kd.R_drewN|apply Kd.R_drew));exact HO0_3.out) hb);have n2_:=Aside0.mk (blk_below (g:=gb1) (o:=.cells #[.int .i64 a0_0,.int .i64 a0_1,.slice Ao15 l0_2.length co15,.slice Ao16 l0_3.length co16] 45 (0,0)) (by (with_reducible repeat (first|refine blk_drewN ?_ _|refine blk_drew ?_|refine blk_alloc ?_ _));exact BK1.out) hb);have n3_:=Aside0.mk (Kept.below (S:=(fun k_=>P0_2_ k_∨P0_3_ k_)) (by repeat (first|(with_reducible first|exact HK.out|apply Kept.alloc|apply Kept.drewN|apply Kept.drew|refine Kept.setCell ?_ (.inr GW1.out) _)|exact HK.out)) hb);have n4_:=Aside0.mk (below_step (by repeat (first|(with_reducible first|exact HB.out|apply below_alloc|apply pw_below_drewN|apply below_drew1|refine below_set ?_ GE1.out)|exact HB.out)) hb);have n5_:=Aside0.mk (hbox);have n6_:=Aside0.mk ((by rw [hg];exact (by first|exact HK.out.1|exact (show Kept w _ (fun k_=>P0_2_ k_∨P0_3_ k_) from by repeat (first|(with_reducible first|exact HK.out|apply Kept.alloc|apply Kept.drewN|apply Kept.drew|refine Kept.setCell ?_ (.inr GW1.out) _)|exact HK.out)).1):w.heap.size≤gb2));have n7_:=Aside0.mk ((by rw [hg];exact (below_size (by repeat (first|(with_reducible first|exact HB.out|apply below_alloc|apply pw_below_drewN|apply below_drew1|refine below_set ?_ GE1.out)|exact HB.out))):w0.heap.size≤gb2));have n8_:=Aside0.mk ((by rw [hg];exact Nat.ne_of_lt (blk_lt (g:=gb1) (o:=.cells #[.int .i64 a0_0,.int .i64 a0_1,.slice Ao15 l0_2.length co15,.slice Ao16 l0_3.length co16] 45 (0,0)) (by (with_reducible repeat (first|refine blk_drewN ?_ _|refine blk_drew ?_|refine blk_alloc ?_ _));exact BK1.out)):gb1≠gb2));have n9_:=Aside0.mk ((by rw [hg];exact Nat.ne_of_gt (blk_lt (g:=gb1) (o:=.cells #[.int .i64 a0_0,.int .i64 a0_1,.slice Ao15 l0_2.length co15,.slice Ao16 l0_3.length co16] 45 (0,0)) (by (with_reducible repeat (first|refine blk_drewN ?_ _|refine blk_drew ?_|refine blk_alloc ?_ _));exact BK1.out)):gb2≠gb1));clear HO0_2;clear HO0_3;clear BK1;clear HK;clear HB;have HO0_2:=n0_;have HO0_3:=n1_;have BK1:=n2_;have HK:=n3_;have HB:=n4_;have BK2:=n5_;have GW2:=n6_;have GE2:=n7_;have NB1_2:=n8_;have NB2_1:=n9_;clear n0_ n1_ n2_ n3_ n4_ n5_ n6_ n7_ n8_ n9_;clear hb hbox hg;have hnb19:=NB1_2.out;have hnc19:=NB2_1.out;have hcz20_0:w18.cell? ⟨gb1,0,none⟩=some (.int .i64 a0_0):=(blk_cell BK1.out 0).trans rfl;have hcz20_1:w18.cell? ⟨gb1,1,none⟩=some (.int .i64 a0_1):=(blk_cell BK1.out 1).trans rfl;have hcz20_2:w18.cell? ⟨gb1,2,none⟩=some (.slice Ao15 l0_2.length co15):=(blk_cell BK1.out 2).trans rfl;have hcz20_3:w18.cell? ⟨gb1,3,none⟩=some (.slice Ao16 l0_3.length co16):=(blk_cell BK1.out 3).trans rfl;have hfz20_0:=blk_frozen BK1.out 0;have hfz20_1:=blk_frozen BK1.out 1;have hfz20_2:=blk_frozen BK1.out 2;have hfz20_3:=blk_frozen BK1.out 3)|((with_reducible refine gate_callee (f:=26) rfl ?_);refine goesL_ (some 8) rfl rfl Try.func26 (by kernel_rfl) rfl #[.agg #[.int .i64 a0_0,.int .i64 a0_1,.slice Ao15 l0_2.length co15,.slice Ao16 l0_3.length co16],.int .i64 a1] rfl (by (try simp only [List.map_toArray,List.map_cons,List.map_nil]);first|done|rfl|(simp only [List.length_drop,List.length_take];rfl)) ?_;(with_reducible refine (mosaicref18_Table_Find.calls k a0_0 a0_1 _ _ l0_2 _ _ l0_3 a1 t3 _ ?side1 ?side2 ?side3 ?side4 A3.out).mono ?_);(case side1=>repeat (first|exact (Kd.R_reads' HO0_2.out).2.2|(with_reducible refine Kd.C_alloc ?_ _)|(with_reducible refine Kd.C_drewN ?_ _)|(with_reducible refine Kd.C_drew ?_)));(case side2=>exact (Kd.R_reads' HO0_2.out).2.1);(case side3=>repeat (first|exact (Kd.R_reads' HO0_3.out).2.2|(with_reducible refine Kd.C_alloc ?_ _)|(with_reducible refine Kd.C_drewN ?_ _)|(with_reducible refine Kd.C_drew ?_)));(case side4=>exact (Kd.R_reads' HO0_3.out).2.1);rintro e w21 ⟨rfl,hb⟩;refine ⟨_,rfl,?_⟩;have n0_:=Aside0.mk (Kd.R_below (by (with_reducible repeat (first|apply Kd.R_alloc|apply Kd.R_drewN|apply Kd.R_drew));exact HO0_2.out) hb);have n1_:=Aside0.mk (Kd.R_below (by (with_reducible repeat (first|apply Kd.R_alloc|apply Kd.R_drewN|apply Kd.R_drew));exact HO0_3.out) hb);have n2_:=Aside0.mk (blk_below (g:=gb1) (o:=.cells #[.int .i64 a0_0,.int .i64 a0_1,.slice Ao15 l0_2.length co15,.slice Ao16 l0_3.length co16] 45 (0,0)) (by (with_reducible repeat (first|refine blk_drewN ?_ _|refine blk_drew ?_|refine blk_alloc ?_ _));exact BK1.out) hb);have n3_:=Aside0.mk (blk_below (g:=gb2) (o:=.cells #[.int .i64 0,.int .i64 0,.slice none 0 0,.slice none 0 0] 45 (0,0)) (by (with_reducible repeat (first|refine blk_drewN ?_ _|refine blk_drew ?_|refine blk_alloc ?_ _));exact BK2.out) hb);have n4_:=Aside0.mk (Kept.below (S:=(fun k_=>P0_2_ k_∨P0_3_ k_)) (by repeat (first|(with_reducible first|exact HK.out|apply Kept.alloc|apply Kept.drewN|apply Kept.drew|refine Kept.setCell ?_ (.inr GW1.out) _|refine Kept.setCell ?_ (.inr GW2.out) _)|exact HK.out)) hb);have n5_:=Aside0.mk (below_step (by repeat (first|(with_reducible first|exact HB.out|apply below_alloc|apply pw_below_drewN|apply below_drew1|refine below_set ?_ GE1.out|refine below_set ?_ GE2.out)|exact HB.out)) hb);clear HO0_2;clear HO0_3;clear BK1;clear BK2;clear HK;clear HB;have HO0_2:=n0_;have HO0_3:=n1_;have BK1:=n2_;have BK2:=n3_;have HK:=n4_;have HB:=n5_;clear n0_ n1_ n2_ n3_ n4_ n5_;(try clear hb);(try clear hb2);(try clear hk);(try clear hi);have hcz22_0:w21.cell? ⟨gb1,0,none⟩=some (.int .i64 a0_0):=(blk_cell BK1.out 0).trans rfl;have hcz22_1:w21.cell? ⟨gb1,1,none⟩=some (.int .i64 a0_1):=(blk_cell BK1.out 1).trans rfl;have hcz22_2:w21.cell? ⟨gb1,2,none⟩=some (.slice Ao15 l0_2.length co15):=(blk_cell BK1.out 2).trans rfl;have hcz22_3:w21.cell? ⟨gb1,3,none⟩=some (.slice Ao16 l0_3.length co16):=(blk_cell BK1.out 3).trans rfl;have hfz22_0:=blk_frozen BK1.out 0;have hfz22_1:=blk_frozen BK1.out 1;have hfz22_2:=blk_frozen BK1.out 2;have hfz22_3:=blk_frozen BK1.out 3)|((with_reducible refine gate_callee (f:=74) rfl ?_);refine goesL_ (some 13) rfl rfl Try.func74 (by kernel_rfl) rfl #[.agg #[.int .i64 a0_0,.int .i64 a0_1,.slice Ao15 l0_2.length co15,.slice Ao16 l0_3.length co16],.int .i64 a1] rfl (by (try simp only [List.map_toArray,List.map_cons,List.map_nil]);first|done|rfl|(simp only [List.length_drop,List.length_take];rfl)) ?_;(with_reducible refine (mosaicref18_Table_without.calls k a0_0 a0_1 _ _ l0_2 (fun k_=>some k_=(.slice Ao16 l0_3.length co16:Value).ownBlock) (.slice Ao16 l0_3.length co16) l0_3 a1 t4 t5 t6 t9 w0 _ ?side1 ?side2 ?side3 ?side4 A14.out).mono ?_);(case side1=>repeat (first|(with_reducible first|exact HB.out|apply below_alloc|apply pw_below_drewN|apply below_drew1|refine below_set ?_ GE1.out|refine below_set ?_ GE2.out)|exact HB.out));(case side2=>exact Kd.C_kept_own ((Kd.R_apart' HO0_2.out (Kd.R_typed HO0_3.out) (by decide))) (fun k_ hk_ hs_=>(hk_.2) hs_));(case side3=>exact (Kd.R_reads' HO0_2.out).2.1);(case side4=>exact Kd.R_tight rfl HO0_3.out);rintro e w23 ⟨v7,v10,rfl,ho0,ho1,hb,hkp⟩;refine ⟨_,rfl,?_⟩;have n0_:=Aside0.mk (Kd.R_mono (ok':=fun k_=>((P0_2_ k_∨P0_3_ k_)∨w.heap.size≤k_)∧some k_≠(v7:Value).ownBlock) (Kd.R_keptB ((Kd.R_apart' HO0_2.out (Kd.R_typed HO0_3.out) (by decide))) hkp (fun k_ hk_ hs_=>(hk_.2) hs_)) (fun k_ hk_=>⟨hk_.1.1,fun e_=>Or.elim (ho0.1 k_ e_.symm) (fun hs_=>hk_.2.1 hs_) (fun hn_=>Nat.not_le.2 hk_.2.2 hn_)⟩));have n1_:=Aside0.mk (blk_kept (by (with_reducible repeat (first|refine blk_drewN ?_ _|refine blk_drew ?_|refine blk_alloc ?_ _));exact BK1.out) hkp (fun hs_=>(fun e_=>(Kd.R_ne HO0_3.out BK1.out (by decide)) e_) hs_));have n2_:=Aside0.mk (blk_kept (by (with_reducible repeat (first|refine blk_drewN ?_ _|refine blk_drew ?_|refine blk_alloc ?_ _));exact BK2.out) hkp (fun hs_=>(fun e_=>(Kd.R_ne HO0_3.out BK2.out (by decide)) e_) hs_));have n3_:=Aside0.mk (Kd.R_mono (ok':=fun k_=>((P0_2_ k_∨P0_3_ k_)∨w.heap.size≤k_)∧some k_≠(.slice Ao15 l0_2.length co15:Value).ownBlock) ho0 (fun k_ hk_=>⟨Or.elim hk_ (fun hs_=>(HO0_3.out.1 k_ (hs_).symm)) (fun hn_=>(.inr (Nat.le_trans (by first|exact HK.out.1|exact (show Kept w _ (fun k_=>P0_2_ k_∨P0_3_ k_) from by repeat (first|(with_reducible first|exact HK.out|apply Kept.alloc|apply Kept.drewN|apply Kept.drew|refine Kept.setCell ?_ (.inr GW1.out) _|refine Kept.setCell ?_ (.inr GW2.out) _)|exact HK.out)).1) hn_))),Or.elim hk_ (fun hs_=>fun e_=>((((Kd.R_apart' HO0_2.out (Kd.R_typed HO0_3.out) (by decide))).1 k_ e_.symm).2) hs_) (fun hn_=>(Kd.fresh' (Kd.R_lt (by (with_reducible repeat (first|apply Kd.R_alloc|apply Kd.R_drewN|apply Kd.R_drew));exact HO0_2.out)) k_ hn_))⟩));have n4_:=Aside0.mk (Kd.R_mono (ok':=fun k_=>((P0_2_ k_∨P0_3_ k_)∨w.heap.size≤k_)) ho1 (fun k_ hk_=>Or.elim hk_ (fun hs_=>(HO0_3.out.1 k_ (hs_).symm)) (fun hn_=>(.inr (Nat.le_trans (by first|exact HK.out.1|exact (show Kept w _ (fun k_=>P0_2_ k_∨P0_3_ k_) from by repeat (first|(with_reducible first|exact HK.out|apply Kept.alloc|apply Kept.drewN|apply Kept.drew|refine Kept.setCell ?_ (.inr GW1.out) _|refine Kept.setCell ?_ (.inr GW2.out) _)|exact HK.out)).1) hn_)))));have n5_:=Aside0.mk (Kept.then_ (S:=(fun k_=>P0_2_ k_∨P0_3_ k_)) (by repeat (first|(with_reducible first|exact HK.out|apply Kept.alloc|apply Kept.drewN|apply Kept.drew|refine Kept.setCell ?_ (.inr GW1.out) _|refine Kept.setCell ?_ (.inr GW2.out) _)|exact HK.out)) hkp (fun k_ hs_=>(fun e_=>(HO0_3.out.1 k_ e_.symm)) hs_));have n6_:=Aside0.mk (hb);clear HO0_2;clear BK1;clear BK2;clear HK;clear HB;clear HO0_3;have HO0_2:=n0_;have BK1:=n1_;have BK2:=n2_;have HO8:=n3_;have HO11:=n4_;have HK:=n5_;have HB:=n6_;clear n0_ n1_ n2_ n3_ n4_ n5_ n6_;(try clear hb);(try clear hkp);(try clear ho0);(try clear ho1);have hcz24_0:w23.cell? ⟨gb2,0,none⟩=some (.int .i64 0):=(blk_cell BK2.out 0).trans rfl;have hcz24_1:w23.cell? ⟨gb2,1,none⟩=some (.int .i64 0):=(blk_cell BK2.out 1).trans rfl;have hcz24_2:w23.cell? ⟨gb2,2,none⟩=some (.slice none 0 0):=(blk_cell BK2.out 2).trans rfl;have hcz24_3:w23.cell? ⟨gb2,3,none⟩=some (.slice none 0 0):=(blk_cell BK2.out 3).trans rfl;have hfz24_0:=blk_frozen BK2.out 0;have hfz24_1:=blk_frozen BK2.out 1;have hfz24_2:=blk_frozen BK2.out 2;have hfz24_3:=blk_frozen BK2.out 3;obtain ⟨Ao25,co25,eo25⟩:=Kd.R_slice HO8.out;subst eo25;obtain ⟨Ao26,co26,eo26⟩:=Kd.R_slice HO11.out;subst eo26))
  refine bodyPost_ret (results_ct rfl _ _ gb2 45 #[.int .i64 t4,.int .i64 t5,.slice Ao25 t6.length co25,.slice Ao26 t9.length co26] (0,0) _ rfl (by (with_reducible repeat (first|refine blk_drewN ?_ _|refine blk_drew ?_|refine blk_alloc ?_ _));refine blk_put (cs:=#[.int .i64 t4,.int .i64 t5,.slice Ao25 t6.length co25,.slice none 0 0]) ?_ 3 _ rfl;(with_reducible repeat (first|refine blk_drewN ?_ _|refine blk_drew ?_|refine blk_alloc ?_ _));refine blk_put (cs:=#[.int .i64 t4,.int .i64 t5,.slice none 0 0,.slice none 0 0]) ?_ 2 _ rfl;(with_reducible repeat (first|refine blk_drewN ?_ _|refine blk_drew ?_|refine blk_alloc ?_ _));refine blk_put (cs:=#[.int .i64 t4,.int .i64 0,.slice none 0 0,.slice none 0 0]) ?_ 1 _ rfl;(with_reducible repeat (first|refine blk_drewN ?_ _|refine blk_drew ?_|refine blk_alloc ?_ _));refine blk_put (cs:=#[.int .i64 0,.int .i64 0,.slice none 0 0,.slice none 0 0]) ?_ 0 _ rfl;(with_reducible repeat (first|refine blk_drewN ?_ _|refine blk_drew ?_|refine blk_alloc ?_ _));exact BK2.out) Try.underlying45 rfl (by kernel_rfl)) rfl ?_
  exact ⟨_,_,by first|rfl|(simp [errW_none,errW_some] <;> rfl)|(simp [*,errW_none,errW_some] <;> rfl),by (with_reducible repeat (first|apply Kd.R_alloc|apply Kd.R_drewN|apply Kd.R_drew));exact Kd.R_mono (Kd.R_far (p:=⟨gb2,3,none⟩) (Kd.R_far (p:=⟨gb2,2,none⟩) (Kd.R_far (p:=⟨gb2,1,none⟩) (Kd.R_far (p:=⟨gb2,0,none⟩) (Kd.R_types HO8.out BK2.out (by decide)) (fun _ hk=>hk.2) (.int .i64 t4)) (fun _ hk=>hk.2) (.int .i64 t5)) (fun _ hk=>hk.2) (.slice Ao25 t6.length co25)) (fun _ hk=>hk.2) (.slice Ao26 t9.length co26)) (fun _ hk=>hk.1.1),by (with_reducible repeat (first|apply Kd.R_alloc|apply Kd.R_drewN|apply Kd.R_drew));exact Kd.R_mono (Kd.R_far (p:=⟨gb2,3,none⟩) (Kd.R_far (p:=⟨gb2,2,none⟩) (Kd.R_far (p:=⟨gb2,1,none⟩) (Kd.R_far (p:=⟨gb2,0,none⟩) (Kd.R_types HO11.out BK2.out (by decide)) (fun _ hk=>hk.2) (.int .i64 t4)) (fun _ hk=>hk.2) (.int .i64 t5)) (fun _ hk=>hk.2) (.slice Ao25 t6.length co25)) (fun _ hk=>hk.2) (.slice Ao26 t9.length co26)) (fun _ hk=>hk.1),by repeat (first|(with_reducible first|exact HB.out|apply below_alloc|apply pw_below_drewN|apply below_drew1|refine below_set ?_ GE1.out|refine below_set ?_ GE2.out)|exact HB.out),by repeat (first|(with_reducible first|exact HK.out|apply Kept.alloc|apply Kept.drewN|apply Kept.drew|refine Kept.setCell ?_ (.inr GW1.out) _|refine Kept.setCell ?_ (.inr GW2.out) _)|exact HK.out)⟩
end Go.Proofs.Ytpejjpecdkbleaa.Print
/-! #### Pr68 -/
namespace Go.Proofs.Ytpejjpecdkbleaa.Print
open Go.RowKit Go.Proofs.YtpejjpecdkbleaaW.PrintWords Go.Proofs.YtpejjpecdkbleaaW.PrintLast Go.Proofs.YtpejjpecdkbleaaW.PrintMore
attribute [local go_sem] max2_int min2_int max_two min_two max_three min_three max_four min_four
set_option linter.unusedVariables false
set_option linter.unusedSimpArgs false
/-! ### mosaicref17_Check: function 68 -/
def mosaicref17_Check.f (a0_0:Int) (a0_1:Int):Option (Bool):=if a0_0≥(-1048576) then (if a0_0≤1048576 then (if a0_1≥(-1048576) then (some (decide (a0_1≤1048576))) else (some false)) else (some false)) else (some false)
set_option maxHeartbeats 8000000 in
set_option maxRecDepth 100000 in
theorem mosaicref17_Check.calls (a0_0:Int) (a0_1:Int) (r:Bool) (w:World) (h:mosaicref17_Check.f a0_0 a0_1=some r) :
  Calls Try.prog 68 #[.agg #[.int .i64 a0_0,.int .i64 a0_1]] w fun e w'=>e=.returned (.bool r)∧Below w.heap.size w w':=by
 have hu54:=Try.underlying54
 have HB:=Aside0.mk (Below.refl w.heap.size w)
 have H:(if a0_0≥(-1048576) then (if a0_0≤1048576 then (if a0_1≥(-1048576) then (some (decide (a0_1≤1048576))) else (some false)) else (some false)) else (some false))=some r:=h
 clear h
 by_cases c2:a0_0≥(-1048576)
 ·
  rw [if_pos c2] at H
  have c2b0:decide ((-1048576)≤a0_0)=true:=decide_eq_true c2
  clear c2
  by_cases c3:a0_0≤1048576
  ·
   rw [if_pos c3] at H
   have c3b0:decide (a0_0≤1048576)=true:=decide_eq_true c3
   clear c3
   by_cases c4:a0_1≥(-1048576)
   ·
    rw [if_pos c4] at H
    have c4b0:decide ((-1048576)≤a0_1)=true:=decide_eq_true c4
    clear c4
    obtain rfl:=Option.some.inj H
    go_enter Try.func68,Try.ntmps68
    go_wp2_with (first|((with_reducible refine gate_dst (N:=1) rfl ?_);refine box_event ?hg (N:=1) ?hd (cs:=#[.int .i64 a0_0,.int .i64 a0_1]) (t:=54) ?hr ?_;(case hd=>rfl);(case hg=>rfl);(case hr=>first|(go_simp;done)|(go_simp;rfl));intro gb1 hg w5 hbox hb;have n0_:=Aside0.mk (below_step (by repeat (first|(with_reducible first|exact HB.out|apply below_alloc|apply pw_below_drewN|apply below_drew1)|exact HB.out)) hb);have n1_:=Aside0.mk (hbox);have n2_:=Aside0.mk ((by rw [hg];exact (below_size (by repeat (first|(with_reducible first|exact HB.out|apply below_alloc|apply pw_below_drewN|apply below_drew1)|exact HB.out))):w.heap.size≤gb1));have n3_:=Aside0.mk ((by rw [hg];exact (below_size (by repeat (first|(with_reducible first|exact HB.out|apply below_alloc|apply pw_below_drewN|apply below_drew1)|exact HB.out))):w.heap.size≤gb1));clear HB;have HB:=n0_;have BK1:=n1_;have GW1:=n2_;have GE1:=n3_;clear n0_ n1_ n2_ n3_;clear hb hbox hg;have hcz6_0:w5.cell? ⟨gb1,0,none⟩=some (.int .i64 a0_0):=(blk_cell BK1.out 0).trans rfl;have hcz6_1:w5.cell? ⟨gb1,1,none⟩=some (.int .i64 a0_1):=(blk_cell BK1.out 1).trans rfl;have hfz6_0:=blk_frozen BK1.out 0;have hfz6_1:=blk_frozen BK1.out 1))
    go_ret
    exact ⟨by first|rfl|(simp [errW_none,errW_some] <;> rfl)|(simp [*,errW_none,errW_some] <;> rfl),by repeat (first|(with_reducible first|exact HB.out|apply below_alloc|apply pw_below_drewN|apply below_drew1|refine below_set ?_ GE1.out)|exact HB.out)⟩
   ·
    rw [if_neg c4] at H
    have c4b0:decide ((-1048576)≤a0_1)=false:=decide_eq_false c4
    clear c4
    obtain rfl:=Option.some.inj H
    go_enter Try.func68,Try.ntmps68
    go_wp2_with (first|((with_reducible refine gate_dst (N:=1) rfl ?_);refine box_event ?hg (N:=1) ?hd (cs:=#[.int .i64 a0_0,.int .i64 a0_1]) (t:=54) ?hr ?_;(case hd=>rfl);(case hg=>rfl);(case hr=>first|(go_simp;done)|(go_simp;rfl));intro gb1 hg w7 hbox hb;have n0_:=Aside0.mk (below_step (by repeat (first|(with_reducible first|exact HB.out|apply below_alloc|apply pw_below_drewN|apply below_drew1)|exact HB.out)) hb);have n1_:=Aside0.mk (hbox);have n2_:=Aside0.mk ((by rw [hg];exact (below_size (by repeat (first|(with_reducible first|exact HB.out|apply below_alloc|apply pw_below_drewN|apply below_drew1)|exact HB.out))):w.heap.size≤gb1));have n3_:=Aside0.mk ((by rw [hg];exact (below_size (by repeat (first|(with_reducible first|exact HB.out|apply below_alloc|apply pw_below_drewN|apply below_drew1)|exact HB.out))):w.heap.size≤gb1));clear HB;have HB:=n0_;have BK1:=n1_;have GW1:=n2_;have GE1:=n3_;clear n0_ n1_ n2_ n3_;clear hb hbox hg;have hcz8_0:w7.cell? ⟨gb1,0,none⟩=some (.int .i64 a0_0):=(blk_cell BK1.out 0).trans rfl;have hcz8_1:w7.cell? ⟨gb1,1,none⟩=some (.int .i64 a0_1):=(blk_cell BK1.out 1).trans rfl;have hfz8_0:=blk_frozen BK1.out 0;have hfz8_1:=blk_frozen BK1.out 1))
    go_ret
    exact ⟨by first|rfl|(simp [errW_none,errW_some] <;> rfl)|(simp [*,errW_none,errW_some] <;> rfl),by repeat (first|(with_reducible first|exact HB.out|apply below_alloc|apply pw_below_drewN|apply below_drew1|refine below_set ?_ GE1.out)|exact HB.out)⟩
  ·
   rw [if_neg c3] at H
   have c3b0:decide (a0_0≤1048576)=false:=decide_eq_false c3
   clear c3
   obtain rfl:=Option.some.inj H
   go_enter Try.func68,Try.ntmps68
   go_wp2_with (first|((with_reducible refine gate_dst (N:=1) rfl ?_);refine box_event ?hg (N:=1) ?hd (cs:=#[.int .i64 a0_0,.int .i64 a0_1]) (t:=54) ?hr ?_;(case hd=>rfl);(case hg=>rfl);(case hr=>first|(go_simp;done)|(go_simp;rfl));intro gb1 hg w9 hbox hb;have n0_:=Aside0.mk (below_step (by repeat (first|(with_reducible first|exact HB.out|apply below_alloc|apply pw_below_drewN|apply below_drew1)|exact HB.out)) hb);have n1_:=Aside0.mk (hbox);have n2_:=Aside0.mk ((by rw [hg];exact (below_size (by repeat (first|(with_reducible first|exact HB.out|apply below_alloc|apply pw_below_drewN|apply below_drew1)|exact HB.out))):w.heap.size≤gb1));have n3_:=Aside0.mk ((by rw [hg];exact (below_size (by repeat (first|(with_reducible first|exact HB.out|apply below_alloc|apply pw_below_drewN|apply below_drew1)|exact HB.out))):w.heap.size≤gb1));clear HB;have HB:=n0_;have BK1:=n1_;have GW1:=n2_;have GE1:=n3_;clear n0_ n1_ n2_ n3_;clear hb hbox hg;have hcz10_0:w9.cell? ⟨gb1,0,none⟩=some (.int .i64 a0_0):=(blk_cell BK1.out 0).trans rfl;have hcz10_1:w9.cell? ⟨gb1,1,none⟩=some (.int .i64 a0_1):=(blk_cell BK1.out 1).trans rfl;have hfz10_0:=blk_frozen BK1.out 0;have hfz10_1:=blk_frozen BK1.out 1))
   go_ret
   exact ⟨by first|rfl|(simp [errW_none,errW_some] <;> rfl)|(simp [*,errW_none,errW_some] <;> rfl),by repeat (first|(with_reducible first|exact HB.out|apply below_alloc|apply pw_below_drewN|apply below_drew1|refine below_set ?_ GE1.out)|exact HB.out)⟩
 ·
  rw [if_neg c2] at H
  have c2b0:decide ((-1048576)≤a0_0)=false:=decide_eq_false c2
  clear c2
  obtain rfl:=Option.some.inj H
  go_enter Try.func68,Try.ntmps68
  go_wp2_with (first|((with_reducible refine gate_dst (N:=1) rfl ?_);refine box_event ?hg (N:=1) ?hd (cs:=#[.int .i64 a0_0,.int .i64 a0_1]) (t:=54) ?hr ?_;(case hd=>rfl);(case hg=>rfl);(case hr=>first|(go_simp;done)|(go_simp;rfl));intro gb1 hg w11 hbox hb;have n0_:=Aside0.mk (below_step (by repeat (first|(with_reducible first|exact HB.out|apply below_alloc|apply pw_below_drewN|apply below_drew1)|exact HB.out)) hb);have n1_:=Aside0.mk (hbox);have n2_:=Aside0.mk ((by rw [hg];exact (below_size (by repeat (first|(with_reducible first|exact HB.out|apply below_alloc|apply pw_below_drewN|apply below_drew1)|exact HB.out))):w.heap.size≤gb1));have n3_:=Aside0.mk ((by rw [hg];exact (below_size (by repeat (first|(with_reducible first|exact HB.out|apply below_alloc|apply pw_below_drewN|apply below_drew1)|exact HB.out))):w.heap.size≤gb1));clear HB;have HB:=n0_;have BK1:=n1_;have GW1:=n2_;have GE1:=n3_;clear n0_ n1_ n2_ n3_;clear hb hbox hg;have hcz12_0:w11.cell? ⟨gb1,0,none⟩=some (.int .i64 a0_0):=(blk_cell BK1.out 0).trans rfl;have hcz12_1:w11.cell? ⟨gb1,1,none⟩=some (.int .i64 a0_1):=(blk_cell BK1.out 1).trans rfl;have hfz12_0:=blk_frozen BK1.out 0;have hfz12_1:=blk_frozen BK1.out 1))
  go_ret
  exact ⟨by first|rfl|(simp [errW_none,errW_some] <;> rfl)|(simp [*,errW_none,errW_some] <;> rfl),by repeat (first|(with_reducible first|exact HB.out|apply below_alloc|apply pw_below_drewN|apply below_drew1|refine below_set ?_ GE1.out)|exact HB.out)⟩
end Go.Proofs.Ytpejjpecdkbleaa.Print
/-! #### Pr73 -/
namespace Go.Proofs.Ytpejjpecdkbleaa.Print
open Go.RowKit Go.Proofs.YtpejjpecdkbleaaW.PrintWords Go.Proofs.YtpejjpecdkbleaaW.PrintLast Go.Proofs.YtpejjpecdkbleaaW.PrintMore
attribute [local go_sem] max2_int min2_int max_two min_two max_three min_three max_four min_four
set_option linter.unusedVariables false
set_option linter.unusedSimpArgs false
/-! ### mosaicref18_Tick: function 73 -/
def mosaicref18_Tick.f (a0:Int):Option (Bool):=if a0≥0 then (some (decide (a0≤1099511627776))) else (some false)
set_option maxHeartbeats 8000000 in
set_option maxRecDepth 100000 in
theorem mosaicref18_Tick.calls (a0:Int) (r:Bool) (w:World) (h:mosaicref18_Tick.f a0=some r) :
  Calls Try.prog 73 #[.int .i64 a0] w fun e w'=>e=.returned (.bool r)∧Drawn0 w w':=by
 have H:(if a0≥0 then (some (decide (a0≤1099511627776))) else (some false))=some r:=h
 clear h
 by_cases c2:a0≥0
 ·
  rw [if_pos c2] at H
  have c2b0:decide (0≤a0)=true:=decide_eq_true c2
  clear c2
  obtain rfl:=Option.some.inj H
  go_enter Try.func73,Try.ntmps73
  go_wp2
  go_ret
  exact ⟨by first|rfl|(simp;done)|(simp [*];done),by repeat (first|exact Drawn0.refl _|apply Drawn0.step)⟩
 ·
  rw [if_neg c2] at H
  have c2b0:decide (0≤a0)=false:=decide_eq_false c2
  clear c2
  obtain rfl:=Option.some.inj H
  go_enter Try.func73,Try.ntmps73
  go_wp2
  go_ret
  exact ⟨by first|rfl|(simp;done)|(simp [*];done),by repeat (first|exact Drawn0.refl _|apply Drawn0.step)⟩
end Go.Proofs.Ytpejjpecdkbleaa.Print
/-! #### Pr77 -/
namespace Go.Proofs.Ytpejjpecdkbleaa.Print
open Go.RowKit Go.Proofs.YtpejjpecdkbleaaW.PrintWords Go.Proofs.YtpejjpecdkbleaaW.PrintLast Go.Proofs.YtpejjpecdkbleaaW.PrintMore
attribute [local go_sem] max2_int min2_int max_two min_two max_three min_three max_four min_four
set_option linter.unusedVariables false
set_option linter.unusedSimpArgs false
/-! ### mosaicref18_Table_with: function 77 -/
def mosaicref18_Table_with.l0:Nat→List (S56)→Int→Int→Int→List (S56)→List Int→Int→Int→Int→ByteArray→Bool→Bool→Bool→Int→Int→Int→Option (Int×Int×(List (S56))×List Int)
 | 0,_,_,_,_,_,_,_,_,_,_,_,_,_,_,_,_=>none
 | k+1,x5,x6,x2000,x2001,x2002,x2003,x3000,x3001,x3002,x3003,x3004,x3005,x3006,x3007,x3008,x3009=>if x6 < (x2002.length:Int) then (if 0≤x6 then (if ((rd_T56 x2002 x6).f0)=x3000 then (if x5.length < 1954687338268 then (mosaicref18_Table_with.l0 k (x5 ++ [(⟨x3000,(⟨x3001,x3002⟩:S54),x3003,x3004,x3005,x3006,x3007,x3008,x3009⟩:S56)]) (wrap64 (x6+1)) x2000 x2001 x2002 x2003 x3000 x3001 x3002 x3003 x3004 x3005 x3006 x3007 x3008 x3009) else (none)) else (if x5.length < 1954687338268 then (mosaicref18_Table_with.l0 k (x5 ++ [(⟨(rd_T56 x2002 x6).f0,(⟨(rd_T56 x2002 x6).f1.f0,(rd_T56 x2002 x6).f1.f1⟩:S54),(rd_T56 x2002 x6).f2,(rd_T56 x2002 x6).f3,(rd_T56 x2002 x6).f4,(rd_T56 x2002 x6).f5,(rd_T56 x2002 x6).f6,(rd_T56 x2002 x6).f7,(rd_T56 x2002 x6).f8⟩:S56)]) (wrap64 (x6+1)) x2000 x2001 x2002 x2003 x3000 x3001 x3002 x3003 x3004 x3005 x3006 x3007 x3008 x3009) else (none))) else (none)) else (some (x2000,x2001,x5,x2003))
def mosaicref18_Table_with.f (k:Nat) (a0_0:Int) (a0_1:Int) (l0_2:List (S56)) (l0_3:List Int) (a1_0:Int) (a1_1:Int) (a1_2:Int) (a1_3:ByteArray) (a1_4:Bool) (a1_5:Bool) (a1_6:Bool) (a1_7:Int) (a1_8:Int) (a1_9:Int):Option (Int×Int×(List (S56))×List Int):=mosaicref18_Table_with.l0 k ([]:List (S56)) 0 a0_0 a0_1 l0_2 l0_3 a1_0 a1_1 a1_2 a1_3 a1_4 a1_5 a1_6 a1_7 a1_8 a1_9
theorem mosaicref18_Table_with.mono_l:∀ k,(∀ y0 y1 y2 y3 y4 y5 y6 y7 y8 y9 y10 y11 y12 y13 y14 y15,LeO (mosaicref18_Table_with.l0 k y0 y1 y2 y3 y4 y5 y6 y7 y8 y9 y10 y11 y12 y13 y14 y15) (mosaicref18_Table_with.l0 (k+1) y0 y1 y2 y3 y4 y5 y6 y7 y8 y9 y10 y11 y12 y13 y14 y15))
 | 0=>fun _ _ _ _ _ _ _ _ _ _ _ _ _ _ _ _ r h=>by simp [mosaicref18_Table_with.l0] at h
 | k+1=>by
  have ih0:=mosaicref18_Table_with.mono_l k
  ·
   intro y0 y1 y2 y3 y4 y5 y6 y7 y8 y9 y10 y11 y12 y13 y14 y15
   unfold mosaicref18_Table_with.l0
   repeat' first
   | (with_reducible exact ih0 _ _ _ _ _ _ _ _ _ _ _ _ _ _ _ _)
   | (with_reducible exact LeO.refl _)
   | (with_reducible exact LeO.none _)
   | (with_reducible refine LeO.ite ?_ ?_)
   | (with_reducible refine LeO.bind ?_ (fun _=>?_))
   | exact ih0 _ _ _ _ _ _ _ _ _ _ _ _ _ _ _ _
   | exact LeO.none _
   | refine LeO.ite ?_ ?_
   | refine LeO.bind ?_ (fun _=>?_)
theorem mosaicref18_Table_with.mono:∀ a0 a1 a2 a3 a4 a5 a6 a7 a8 a9 a10 a11 a12 a13 k,LeO (mosaicref18_Table_with.f k a0 a1 a2 a3 a4 a5 a6 a7 a8 a9 a10 a11 a12 a13) (mosaicref18_Table_with.f (k+1) a0 a1 a2 a3 a4 a5 a6 a7 a8 a9 a10 a11 a12 a13):=by
 intro a0 a1 a2 a3 a4 a5 a6 a7 a8 a9 a10 a11 a12 a13 k
 have ih0:=mosaicref18_Table_with.mono_l k
 unfold mosaicref18_Table_with.f
 repeat' first
   | (with_reducible exact ih0 _ _ _ _ _ _ _ _ _ _ _ _ _ _ _ _)
   | (with_reducible exact LeO.refl _)
   | (with_reducible exact LeO.none _)
   | (with_reducible refine LeO.ite ?_ ?_)
   | (with_reducible refine LeO.bind ?_ (fun _=>?_))
   | exact ih0 _ _ _ _ _ _ _ _ _ _ _ _ _ _ _ _
   | exact LeO.none _
   | refine LeO.ite ?_ ?_
   | refine LeO.bind ?_ (fun _=>?_)
set_option maxHeartbeats 8000000 in
set_option maxRecDepth 100000 in
theorem mosaicref18_Table_with.calls (k:Nat) (a0_0:Int) (a0_1:Int) (A0_2:Option Addr) (c0_2:Nat) (l0_2:List (S56)) (P0_3_:Nat→Prop) (u9000_:Value) (l0_3:List Int) (a1_0:Int) (a1_1:Int) (a1_2:Int) (a1_3:ByteArray) (a1_4:Bool) (a1_5:Bool) (a1_6:Bool) (a1_7:Int) (a1_8:Int) (a1_9:Int) (r1:Int) (r2:Int) (r3:List (S56)) (r4:List Int) (w0 w:World) (hB:Below w0.heap.size w0 w) (hr0_2:∀ W_,Kept w W_ (fun k_=>P0_3_ k_)→Kd.C k56 W_ A0_2 l0_2.length l0_2) (hc0_2:l0_2.length≤c0_2) (ho0_3:Kd.R (Kd.int .i64) 3 w w0.heap.size P0_3_ u9000_ l0_3) (h:mosaicref18_Table_with.f k a0_0 a0_1 l0_2 l0_3 a1_0 a1_1 a1_2 a1_3 a1_4 a1_5 a1_6 a1_7 a1_8 a1_9=some (r1,r2,r3,r4)) :
  Calls Try.prog 77 #[.agg #[.int .i64 a0_0,.int .i64 a0_1,.slice A0_2 l0_2.length c0_2,u9000_],.agg #[.int .i64 a1_0,.int .i64 a1_1,.int .i64 a1_2,.string a1_3,.bool a1_4,.bool a1_5,.bool a1_6,.int .i64 a1_7,.int .i64 a1_8,.int .i64 a1_9]] w fun e w'=>∃ v2_ v3_:Value,e=.returned (.agg #[.int .i64 r1,.int .i64 r2,v2_,v3_])∧Kd.R k56 56 w' w0.heap.size (fun k_=>(P0_3_ k_∨w.heap.size≤k_)) v2_ r3∧Kd.R (Kd.int .i64) 3 w' w0.heap.size (fun k_=>(P0_3_ k_∨w.heap.size≤k_)) v3_ r4∧Below w0.heap.size w0 w'∧Kept w w' (fun k_=>P0_3_ k_):=by
 have hu45:=Try.underlying45
 have hu56:=Try.underlying56
 have HR0_2:=Aside0.mk hr0_2
 have HC0_2:=Aside0.mk hc0_2
 clear hr0_2 hc0_2
 have HO0_3:=Aside0.mk (show Kd.R (Kd.int .i64) 3 w w0.heap.size (fun k_=>(P0_3_ k_∨w.heap.size≤k_)) u9000_ l0_3 from Kd.R_mono ho0_3 (fun k_ hk=>(.inl hk)))
 have HK:=Aside0.mk (Kept.refl w (fun k_=>P0_3_ k_))
 have HW0:=Aside0.mk hB.size
 have HB:=Aside0.mk hB
 clear hB
 have H:(mosaicref18_Table_with.l0 k ([]:List (S56)) 0 a0_0 a0_1 l0_2 l0_3 a1_0 a1_1 a1_2 a1_3 a1_4 a1_5 a1_6 a1_7 a1_8 a1_9)=some (r1,r2,r3,r4):=h
 clear h
 have H':=Aside0.mk H
 clear H
 obtain ⟨Ao3,co3,eo3⟩:=Kd.R_slice HO0_3.out
 subst eo3
 go_enter Try.func77,Try.ntmps77
 go_wp2_with (first|((with_reducible refine gate_dst (N:=2) rfl ?_);refine box_event ?hg (N:=2) ?hd (cs:=#[.int .i64 a0_0,.int .i64 a0_1,.slice A0_2 l0_2.length c0_2,.slice Ao3 l0_3.length co3]) (t:=45) ?hr ?_;(case hd=>rfl);(case hg=>rfl);(case hr=>first|(go_simp;done)|(go_simp;rfl));intro gb1 hg w4 hbox hb;have n0_:=Aside0.mk (Kd.R_below (by (with_reducible repeat (first|apply Kd.R_alloc|apply Kd.R_drewN|apply Kd.R_drew));exact HO0_3.out) hb);have n1_:=Aside0.mk (Kept.below (S:=(fun k_=>P0_3_ k_)) (by repeat (first|(with_reducible first|exact HK.out|apply Kept.alloc|apply Kept.drewN|apply Kept.drew)|exact HK.out)) hb);have n2_:=Aside0.mk (below_step (by repeat (first|(with_reducible first|exact HB.out|apply below_alloc|apply pw_below_drewN|apply below_drew1)|exact HB.out)) hb);have n3_:=Aside0.mk (hbox);have n4_:=Aside0.mk ((by rw [hg];exact (by first|exact HK.out.1|exact (show Kept w _ (fun k_=>P0_3_ k_) from by repeat (first|(with_reducible first|exact HK.out|apply Kept.alloc|apply Kept.drewN|apply Kept.drew)|exact HK.out)).1):w.heap.size≤gb1));have n5_:=Aside0.mk ((by rw [hg];exact (below_size (by repeat (first|(with_reducible first|exact HB.out|apply below_alloc|apply pw_below_drewN|apply below_drew1)|exact HB.out))):w0.heap.size≤gb1));clear HO0_3;clear HK;clear HB;have HO0_3:=n0_;have HK:=n1_;have HB:=n2_;have BK1:=n3_;have GW1:=n4_;have GE1:=n5_;clear n0_ n1_ n2_ n3_ n4_ n5_;clear hb hbox hg)|((with_reducible refine gate_dst (N:=3) rfl ?_);refine box_event ?hg (N:=3) ?hd (cs:=#[.int .i64 a1_0,.int .i64 a1_1,.int .i64 a1_2,.string a1_3,.bool a1_4,.bool a1_5,.bool a1_6,.int .i64 a1_7,.int .i64 a1_8,.int .i64 a1_9]) (t:=56) ?hr ?_;(case hd=>rfl);(case hg=>rfl);(case hr=>first|(go_simp;done)|(go_simp;rfl));intro gb2 hg w5 hbox hb;have n0_:=Aside0.mk (Kd.R_below (by (with_reducible repeat (first|apply Kd.R_alloc|apply Kd.R_drewN|apply Kd.R_drew));exact HO0_3.out) hb);have n1_:=Aside0.mk (blk_below (g:=gb1) (o:=.cells #[.int .i64 a0_0,.int .i64 a0_1,.slice A0_2 l0_2.length c0_2,.slice Ao3 l0_3.length co3] 45 (0,0)) (by (with_reducible repeat (first|refine blk_drewN ?_ _|refine blk_drew ?_|refine blk_alloc ?_ _));exact BK1.out) hb);have n2_:=Aside0.mk (Kept.below (S:=(fun k_=>P0_3_ k_)) (by repeat (first|(with_reducible first|exact HK.out|apply Kept.alloc|apply Kept.drewN|apply Kept.drew|refine Kept.setCell ?_ (.inr GW1.out) _)|exact HK.out)) hb);have n3_:=Aside0.mk (below_step (by repeat (first|(with_reducible first|exact HB.out|apply below_alloc|apply pw_below_drewN|apply below_drew1|refine below_set ?_ GE1.out)|exact HB.out)) hb);have n4_:=Aside0.mk (hbox);have n5_:=Aside0.mk ((by rw [hg];exact (by first|exact HK.out.1|exact (show Kept w _ (fun k_=>P0_3_ k_) from by repeat (first|(with_reducible first|exact HK.out|apply Kept.alloc|apply Kept.drewN|apply Kept.drew|refine Kept.setCell ?_ (.inr GW1.out) _)|exact HK.out)).1):w.heap.size≤gb2));have n6_:=Aside0.mk ((by rw [hg];exact (below_size (by repeat (first|(with_reducible first|exact HB.out|apply below_alloc|apply pw_below_drewN|apply below_drew1|refine below_set ?_ GE1.out)|exact HB.out))):w0.heap.size≤gb2));have n7_:=Aside0.mk ((by rw [hg];exact Nat.ne_of_lt (blk_lt (g:=gb1) (o:=.cells #[.int .i64 a0_0,.int .i64 a0_1,.slice A0_2 l0_2.length c0_2,.slice Ao3 l0_3.length co3] 45 (0,0)) (by (with_reducible repeat (first|refine blk_drewN ?_ _|refine blk_drew ?_|refine blk_alloc ?_ _));exact BK1.out)):gb1≠gb2));have n8_:=Aside0.mk ((by rw [hg];exact Nat.ne_of_gt (blk_lt (g:=gb1) (o:=.cells #[.int .i64 a0_0,.int .i64 a0_1,.slice A0_2 l0_2.length c0_2,.slice Ao3 l0_3.length co3] 45 (0,0)) (by (with_reducible repeat (first|refine blk_drewN ?_ _|refine blk_drew ?_|refine blk_alloc ?_ _));exact BK1.out)):gb2≠gb1));clear HO0_3;clear BK1;clear HK;clear HB;have HO0_3:=n0_;have BK1:=n1_;have HK:=n2_;have HB:=n3_;have BK2:=n4_;have GW2:=n5_;have GE2:=n6_;have NB1_2:=n7_;have NB2_1:=n8_;clear n0_ n1_ n2_ n3_ n4_ n5_ n6_ n7_ n8_;clear hb hbox hg)|((with_reducible refine gate_dst (N:=4) rfl ?_);refine box_event ?hg (N:=4) ?hd (cs:=#[.int .i64 0,.int .i64 0,.slice none 0 0,.slice none 0 0]) (t:=45) ?hr ?_;(case hd=>rfl);(case hg=>rfl);(case hr=>first|(go_simp;done)|(go_simp;rfl));intro gb3 hg w6 hbox hb;have n0_:=Aside0.mk (Kd.R_below (by (with_reducible repeat (first|apply Kd.R_alloc|apply Kd.R_drewN|apply Kd.R_drew));exact HO0_3.out) hb);have n1_:=Aside0.mk (blk_below (g:=gb1) (o:=.cells #[.int .i64 a0_0,.int .i64 a0_1,.slice A0_2 l0_2.length c0_2,.slice Ao3 l0_3.length co3] 45 (0,0)) (by (with_reducible repeat (first|refine blk_drewN ?_ _|refine blk_drew ?_|refine blk_alloc ?_ _));exact BK1.out) hb);have n2_:=Aside0.mk (blk_below (g:=gb2) (o:=.cells #[.int .i64 a1_0,.int .i64 a1_1,.int .i64 a1_2,.string a1_3,.bool a1_4,.bool a1_5,.bool a1_6,.int .i64 a1_7,.int .i64 a1_8,.int .i64 a1_9] 56 (0,0)) (by (with_reducible repeat (first|refine blk_drewN ?_ _|refine blk_drew ?_|refine blk_alloc ?_ _));exact BK2.out) hb);have n3_:=Aside0.mk (Kept.below (S:=(fun k_=>P0_3_ k_)) (by repeat (first|(with_reducible first|exact HK.out|apply Kept.alloc|apply Kept.drewN|apply Kept.drew|refine Kept.setCell ?_ (.inr GW1.out) _|refine Kept.setCell ?_ (.inr GW2.out) _)|exact HK.out)) hb);have n4_:=Aside0.mk (below_step (by repeat (first|(with_reducible first|exact HB.out|apply below_alloc|apply pw_below_drewN|apply below_drew1|refine below_set ?_ GE1.out|refine below_set ?_ GE2.out)|exact HB.out)) hb);have n5_:=Aside0.mk (hbox);have n6_:=Aside0.mk ((by rw [hg];exact (by first|exact HK.out.1|exact (show Kept w _ (fun k_=>P0_3_ k_) from by repeat (first|(with_reducible first|exact HK.out|apply Kept.alloc|apply Kept.drewN|apply Kept.drew|refine Kept.setCell ?_ (.inr GW1.out) _|refine Kept.setCell ?_ (.inr GW2.out) _)|exact HK.out)).1):w.heap.size≤gb3));have n7_:=Aside0.mk ((by rw [hg];exact (below_size (by repeat (first|(with_reducible first|exact HB.out|apply below_alloc|apply pw_below_drewN|apply below_drew1|refine below_set ?_ GE1.out|refine below_set ?_ GE2.out)|exact HB.out))):w0.heap.size≤gb3));have n8_:=Aside0.mk ((by rw [hg];exact Nat.ne_of_lt (blk_lt (g:=gb1) (o:=.cells #[.int .i64 a0_0,.int .i64 a0_1,.slice A0_2 l0_2.length c0_2,.slice Ao3 l0_3.length co3] 45 (0,0)) (by (with_reducible repeat (first|refine blk_drewN ?_ _|refine blk_drew ?_|refine blk_alloc ?_ _));exact BK1.out)):gb1≠gb3));have n9_:=Aside0.mk ((by rw [hg];exact Nat.ne_of_gt (blk_lt (g:=gb1) (o:=.cells #[.int .i64 a0_0,.int .i64 a0_1,.slice A0_2 l0_2.length c0_2,.slice Ao3 l0_3.length co3] 45 (0,0)) (by (with_reducible repeat (first|refine blk_drewN ?_ _|refine blk_drew ?_|refine blk_alloc ?_ _));exact BK1.out)):gb3≠gb1));have n10_:=Aside0.mk ((by rw [hg];exact Nat.ne_of_lt (blk_lt (g:=gb2) (o:=.cells #[.int .i64 a1_0,.int .i64 a1_1,.int .i64 a1_2,.string a1_3,.bool a1_4,.bool a1_5,.bool a1_6,.int .i64 a1_7,.int .i64 a1_8,.int .i64 a1_9] 56 (0,0)) (by (with_reducible repeat (first|refine blk_drewN ?_ _|refine blk_drew ?_|refine blk_alloc ?_ _));exact BK2.out)):gb2≠gb3));have n11_:=Aside0.mk ((by rw [hg];exact Nat.ne_of_gt (blk_lt (g:=gb2) (o:=.cells #[.int .i64 a1_0,.int .i64 a1_1,.int .i64 a1_2,.string a1_3,.bool a1_4,.bool a1_5,.bool a1_6,.int .i64 a1_7,.int .i64 a1_8,.int .i64 a1_9] 56 (0,0)) (by (with_reducible repeat (first|refine blk_drewN ?_ _|refine blk_drew ?_|refine blk_alloc ?_ _));exact BK2.out)):gb3≠gb2));clear HO0_3;clear BK1;clear BK2;clear HK;clear HB;have HO0_3:=n0_;have BK1:=n1_;have BK2:=n2_;have HK:=n3_;have HB:=n4_;have BK3:=n5_;have GW3:=n6_;have GE3:=n7_;have NB1_3:=n8_;have NB3_1:=n9_;have NB2_3:=n10_;have NB3_2:=n11_;clear n0_ n1_ n2_ n3_ n4_ n5_ n6_ n7_ n8_ n9_ n10_ n11_;clear hb hbox hg))
 repeat (go_quiet (first|((with_reducible refine gate_dst (N:=2) rfl ?_);refine box_event ?hg (N:=2) ?hd (cs:=#[.int .i64 a0_0,.int .i64 a0_1,.slice A0_2 l0_2.length c0_2,.slice Ao3 l0_3.length co3]) (t:=45) ?hr ?_;(case hd=>rfl);(case hg=>rfl);(case hr=>first|(go_simp;done)|(go_simp;rfl));intro gb1 hg w4 hbox hb;have n0_:=Aside0.mk (Kd.R_below (by (with_reducible repeat (first|apply Kd.R_alloc|apply Kd.R_drewN|apply Kd.R_drew));exact HO0_3.out) hb);have n1_:=Aside0.mk (Kept.below (S:=(fun k_=>P0_3_ k_)) (by repeat (first|(with_reducible first|exact HK.out|apply Kept.alloc|apply Kept.drewN|apply Kept.drew)|exact HK.out)) hb);have n2_:=Aside0.mk (below_step (by repeat (first|(with_reducible first|exact HB.out|apply below_alloc|apply pw_below_drewN|apply below_drew1)|exact HB.out)) hb);have n3_:=Aside0.mk (hbox);have n4_:=Aside0.mk ((by rw [hg];exact (by first|exact HK.out.1|exact (show Kept w _ (fun k_=>P0_3_ k_) from by repeat (first|(with_reducible first|exact HK.out|apply Kept.alloc|apply Kept.drewN|apply Kept.drew)|exact HK.out)).1):w.heap.size≤gb1));have n5_:=Aside0.mk ((by rw [hg];exact (below_size (by repeat (first|(with_reducible first|exact HB.out|apply below_alloc|apply pw_below_drewN|apply below_drew1)|exact HB.out))):w0.heap.size≤gb1));clear HO0_3;clear HK;clear HB;have HO0_3:=n0_;have HK:=n1_;have HB:=n2_;have BK1:=n3_;have GW1:=n4_;have GE1:=n5_;clear n0_ n1_ n2_ n3_ n4_ n5_;clear hb hbox hg)|((with_reducible refine gate_dst (N:=3) rfl ?_);refine box_event ?hg (N:=3) ?hd (cs:=#[.int .i64 a1_0,.int .i64 a1_1,.int .i64 a1_2,.string a1_3,.bool a1_4,.bool a1_5,.bool a1_6,.int .i64 a1_7,.int .i64 a1_8,.int .i64 a1_9]) (t:=56) ?hr ?_;(case hd=>rfl);(case hg=>rfl);(case hr=>first|(go_simp;done)|(go_simp;rfl));intro gb2 hg w5 hbox hb;have n0_:=Aside0.mk (Kd.R_below (by (with_reducible repeat (first|apply Kd.R_alloc|apply Kd.R_drewN|apply Kd.R_drew));exact HO0_3.out) hb);have n1_:=Aside0.mk (blk_below (g:=gb1) (o:=.cells #[.int .i64 a0_0,.int .i64 a0_1,.slice A0_2 l0_2.length c0_2,.slice Ao3 l0_3.length co3] 45 (0,0)) (by (with_reducible repeat (first|refine blk_drewN ?_ _|refine blk_drew ?_|refine blk_alloc ?_ _));exact BK1.out) hb);have n2_:=Aside0.mk (Kept.below (S:=(fun k_=>P0_3_ k_)) (by repeat (first|(with_reducible first|exact HK.out|apply Kept.alloc|apply Kept.drewN|apply Kept.drew|refine Kept.setCell ?_ (.inr GW1.out) _)|exact HK.out)) hb);have n3_:=Aside0.mk (below_step (by repeat (first|(with_reducible first|exact HB.out|apply below_alloc|apply pw_below_drewN|apply below_drew1|refine below_set ?_ GE1.out)|exact HB.out)) hb);have n4_:=Aside0.mk (hbox);have n5_:=Aside0.mk ((by rw [hg];exact (by first|exact HK.out.1|exact (show Kept w _ (fun k_=>P0_3_ k_) from by repeat (first|(with_reducible first|exact HK.out|apply Kept.alloc|apply Kept.drewN|apply Kept.drew|refine Kept.setCell ?_ (.inr GW1.out) _)|exact HK.out)).1):w.heap.size≤gb2));have n6_:=Aside0.mk ((by rw [hg];exact (below_size (by repeat (first|(with_reducible first|exact HB.out|apply below_alloc|apply pw_below_drewN|apply below_drew1|refine below_set ?_ GE1.out)|exact HB.out))):w0.heap.size≤gb2));have n7_:=Aside0.mk ((by rw [hg];exact Nat.ne_of_lt (blk_lt (g:=gb1) (o:=.cells #[.int .i64 a0_0,.int .i64 a0_1,.slice A0_2 l0_2.length c0_2,.slice Ao3 l0_3.length co3] 45 (0,0)) (by (with_reducible repeat (first|refine blk_drewN ?_ _|refine blk_drew ?_|refine blk_alloc ?_ _));exact BK1.out)):gb1≠gb2));have n8_:=Aside0.mk ((by rw [hg];exact Nat.ne_of_gt (blk_lt (g:=gb1) (o:=.cells #[.int .i64 a0_0,.int .i64 a0_1,.slice A0_2 l0_2.length c0_2,.slice Ao3 l0_3.length co3] 45 (0,0)) (by (with_reducible repeat (first|refine blk_drewN ?_ _|refine blk_drew ?_|refine blk_alloc ?_ _));exact BK1.out)):gb2≠gb1));clear HO0_3;clear BK1;clear HK;clear HB;have HO0_3:=n0_;have BK1:=n1_;have HK:=n2_;have HB:=n3_;have BK2:=n4_;have GW2:=n5_;have GE2:=n6_;have NB1_2:=n7_;have NB2_1:=n8_;clear n0_ n1_ n2_ n3_ n4_ n5_ n6_ n7_ n8_;clear hb hbox hg)|((with_reducible refine gate_dst (N:=4) rfl ?_);refine box_event ?hg (N:=4) ?hd (cs:=#[.int .i64 0,.int .i64 0,.slice none 0 0,.slice none 0 0]) (t:=45) ?hr ?_;(case hd=>rfl);(case hg=>rfl);(case hr=>first|(go_simp;done)|(go_simp;rfl));intro gb3 hg w6 hbox hb;have n0_:=Aside0.mk (Kd.R_below (by (with_reducible repeat (first|apply Kd.R_alloc|apply Kd.R_drewN|apply Kd.R_drew));exact HO0_3.out) hb);have n1_:=Aside0.mk (blk_below (g:=gb1) (o:=.cells #[.int .i64 a0_0,.int .i64 a0_1,.slice A0_2 l0_2.length c0_2,.slice Ao3 l0_3.length co3] 45 (0,0)) (by (with_reducible repeat (first|refine blk_drewN ?_ _|refine blk_drew ?_|refine blk_alloc ?_ _));exact BK1.out) hb);have n2_:=Aside0.mk (blk_below (g:=gb2) (o:=.cells #[.int .i64 a1_0,.int .i64 a1_1,.int .i64 a1_2,.string a1_3,.bool a1_4,.bool a1_5,.bool a1_6,.int .i64 a1_7,.int .i64 a1_8,.int .i64 a1_9] 56 (0,0)) (by (with_reducible repeat (first|refine blk_drewN ?_ _|refine blk_drew ?_|refine blk_alloc ?_ _));exact BK2.out) hb);have n3_:=Aside0.mk (Kept.below (S:=(fun k_=>P0_3_ k_)) (by repeat (first|(with_reducible first|exact HK.out|apply Kept.alloc|apply Kept.drewN|apply Kept.drew|refine Kept.setCell ?_ (.inr GW1.out) _|refine Kept.setCell ?_ (.inr GW2.out) _)|exact HK.out)) hb);have n4_:=Aside0.mk (below_step (by repeat (first|(with_reducible first|exact HB.out|apply below_alloc|apply pw_below_drewN|apply below_drew1|refine below_set ?_ GE1.out|refine below_set ?_ GE2.out)|exact HB.out)) hb);have n5_:=Aside0.mk (hbox);have n6_:=Aside0.mk ((by rw [hg];exact (by first|exact HK.out.1|exact (show Kept w _ (fun k_=>P0_3_ k_) from by repeat (first|(with_reducible first|exact HK.out|apply Kept.alloc|apply Kept.drewN|apply Kept.drew|refine Kept.setCell ?_ (.inr GW1.out) _|refine Kept.setCell ?_ (.inr GW2.out) _)|exact HK.out)).1):w.heap.size≤gb3));have n7_:=Aside0.mk ((by rw [hg];exact (below_size (by repeat (first|(with_reducible first|exact HB.out|apply below_alloc|apply pw_below_drewN|apply below_drew1|refine below_set ?_ GE1.out|refine below_set ?_ GE2.out)|exact HB.out))):w0.heap.size≤gb3));have n8_:=Aside0.mk ((by rw [hg];exact Nat.ne_of_lt (blk_lt (g:=gb1) (o:=.cells #[.int .i64 a0_0,.int .i64 a0_1,.slice A0_2 l0_2.length c0_2,.slice Ao3 l0_3.length co3] 45 (0,0)) (by (with_reducible repeat (first|refine blk_drewN ?_ _|refine blk_drew ?_|refine blk_alloc ?_ _));exact BK1.out)):gb1≠gb3));have n9_:=Aside0.mk ((by rw [hg];exact Nat.ne_of_gt (blk_lt (g:=gb1) (o:=.cells #[.int .i64 a0_0,.int .i64 a0_1,.slice A0_2 l0_2.length c0_2,.slice Ao3 l0_3.length co3] 45 (0,0)) (by (with_reducible repeat (first|refine blk_drewN ?_ _|refine blk_drew ?_|refine blk_alloc ?_ _));exact BK1.out)):gb3≠gb1));have n10_:=Aside0.mk ((by rw [hg];exact Nat.ne_of_lt (blk_lt (g:=gb2) (o:=.cells #[.int .i64 a1_0,.int .i64 a1_1,.int .i64 a1_2,.string a1_3,.bool a1_4,.bool a1_5,.bool a1_6,.int .i64 a1_7,.int .i64 a1_8,.int .i64 a1_9] 56 (0,0)) (by (with_reducible repeat (first|refine blk_drewN ?_ _|refine blk_drew ?_|refine blk_alloc ?_ _));exact BK2.out)):gb2≠gb3));have n11_:=Aside0.mk ((by rw [hg];exact Nat.ne_of_gt (blk_lt (g:=gb2) (o:=.cells #[.int .i64 a1_0,.int .i64 a1_1,.int .i64 a1_2,.string a1_3,.bool a1_4,.bool a1_5,.bool a1_6,.int .i64 a1_7,.int .i64 a1_8,.int .i64 a1_9] 56 (0,0)) (by (with_reducible repeat (first|refine blk_drewN ?_ _|refine blk_drew ?_|refine blk_alloc ?_ _));exact BK2.out)):gb3≠gb2));clear HO0_3;clear BK1;clear BK2;clear HK;clear HB;have HO0_3:=n0_;have BK1:=n1_;have BK2:=n2_;have HK:=n3_;have HB:=n4_;have BK3:=n5_;have GW3:=n6_;have GE3:=n7_;have NB1_3:=n8_;have NB3_1:=n9_;have NB2_3:=n10_;have NB3_2:=n11_;clear n0_ n1_ n2_ n3_ n4_ n5_ n6_ n7_ n8_ n9_ n10_ n11_;clear hb hbox hg));try go_wp2_with (first|((with_reducible refine gate_dst (N:=2) rfl ?_);refine box_event ?hg (N:=2) ?hd (cs:=#[.int .i64 a0_0,.int .i64 a0_1,.slice A0_2 l0_2.length c0_2,.slice Ao3 l0_3.length co3]) (t:=45) ?hr ?_;(case hd=>rfl);(case hg=>rfl);(case hr=>first|(go_simp;done)|(go_simp;rfl));intro gb1 hg w4 hbox hb;have n0_:=Aside0.mk (Kd.R_below (by (with_reducible repeat (first|apply Kd.R_alloc|apply Kd.R_drewN|apply Kd.R_drew));exact HO0_3.out) hb);have n1_:=Aside0.mk (Kept.below (S:=(fun k_=>P0_3_ k_)) (by repeat (first|(with_reducible first|exact HK.out|apply Kept.alloc|apply Kept.drewN|apply Kept.drew)|exact HK.out)) hb);have n2_:=Aside0.mk (below_step (by repeat (first|(with_reducible first|exact HB.out|apply below_alloc|apply pw_below_drewN|apply below_drew1)|exact HB.out)) hb);have n3_:=Aside0.mk (hbox);have n4_:=Aside0.mk ((by rw [hg];exact (by first|exact HK.out.1|exact (show Kept w _ (fun k_=>P0_3_ k_) from by repeat (first|(with_reducible first|exact HK.out|apply Kept.alloc|apply Kept.drewN|apply Kept.drew)|exact HK.out)).1):w.heap.size≤gb1));have n5_:=Aside0.mk ((by rw [hg];exact (below_size (by repeat (first|(with_reducible first|exact HB.out|apply below_alloc|apply pw_below_drewN|apply below_drew1)|exact HB.out))):w0.heap.size≤gb1));clear HO0_3;clear HK;clear HB;have HO0_3:=n0_;have HK:=n1_;have HB:=n2_;have BK1:=n3_;have GW1:=n4_;have GE1:=n5_;clear n0_ n1_ n2_ n3_ n4_ n5_;clear hb hbox hg)|((with_reducible refine gate_dst (N:=3) rfl ?_);refine box_event ?hg (N:=3) ?hd (cs:=#[.int .i64 a1_0,.int .i64 a1_1,.int .i64 a1_2,.string a1_3,.bool a1_4,.bool a1_5,.bool a1_6,.int .i64 a1_7,.int .i64 a1_8,.int .i64 a1_9]) (t:=56) ?hr ?_;(case hd=>rfl);(case hg=>rfl);(case hr=>first|(go_simp;done)|(go_simp;rfl));intro gb2 hg w5 hbox hb;have n0_:=Aside0.mk (Kd.R_below (by (with_reducible repeat (first|apply Kd.R_alloc|apply Kd.R_drewN|apply Kd.R_drew));exact HO0_3.out) hb);have n1_:=Aside0.mk (blk_below (g:=gb1) (o:=.cells #[.int .i64 a0_0,.int .i64 a0_1,.slice A0_2 l0_2.length c0_2,.slice Ao3 l0_3.length co3] 45 (0,0)) (by (with_reducible repeat (first|refine blk_drewN ?_ _|refine blk_drew ?_|refine blk_alloc ?_ _));exact BK1.out) hb);have n2_:=Aside0.mk (Kept.below (S:=(fun k_=>P0_3_ k_)) (by repeat (first|(with_reducible first|exact HK.out|apply Kept.alloc|apply Kept.drewN|apply Kept.drew|refine Kept.setCell ?_ (.inr GW1.out) _)|exact HK.out)) hb);have n3_:=Aside0.mk (below_step (by repeat (first|(with_reducible first|exact HB.out|apply below_alloc|apply pw_below_drewN|apply below_drew1|refine below_set ?_ GE1.out)|exact HB.out)) hb);have n4_:=Aside0.mk (hbox);have n5_:=Aside0.mk ((by rw [hg];exact (by first|exact HK.out.1|exact (show Kept w _ (fun k_=>P0_3_ k_) from by repeat (first|(with_reducible first|exact HK.out|apply Kept.alloc|apply Kept.drewN|apply Kept.drew|refine Kept.setCell ?_ (.inr GW1.out) _)|exact HK.out)).1):w.heap.size≤gb2));have n6_:=Aside0.mk ((by rw [hg];exact (below_size (by repeat (first|(with_reducible first|exact HB.out|apply below_alloc|apply pw_below_drewN|apply below_drew1|refine below_set ?_ GE1.out)|exact HB.out))):w0.heap.size≤gb2));have n7_:=Aside0.mk ((by rw [hg];exact Nat.ne_of_lt (blk_lt (g:=gb1) (o:=.cells #[.int .i64 a0_0,.int .i64 a0_1,.slice A0_2 l0_2.length c0_2,.slice Ao3 l0_3.length co3] 45 (0,0)) (by (with_reducible repeat (first|refine blk_drewN ?_ _|refine blk_drew ?_|refine blk_alloc ?_ _));exact BK1.out)):gb1≠gb2));have n8_:=Aside0.mk ((by rw [hg];exact Nat.ne_of_gt (blk_lt (g:=gb1) (o:=.cells #[.int .i64 a0_0,.int .i64 a0_1,.slice A0_2 l0_2.length c0_2,.slice Ao3 l0_3.length co3] 45 (0,0)) (by (with_reducible repeat (first|refine blk_drewN ?_ _|refine blk_drew ?_|refine blk_alloc ?_ _));exact BK1.out)):gb2≠gb1));clear HO0_3;clear BK1;clear HK;clear HB;have HO0_3:=n0_;have BK1:=n1_;have HK:=n2_;have HB:=n3_;have BK2:=n4_;have GW2:=n5_;have GE2:=n6_;have NB1_2:=n7_;have NB2_1:=n8_;clear n0_ n1_ n2_ n3_ n4_ n5_ n6_ n7_ n8_;clear hb hbox hg)|((with_reducible refine gate_dst (N:=4) rfl ?_);refine box_event ?hg (N:=4) ?hd (cs:=#[.int .i64 0,.int .i64 0,.slice none 0 0,.slice none 0 0]) (t:=45) ?hr ?_;(case hd=>rfl);(case hg=>rfl);(case hr=>first|(go_simp;done)|(go_simp;rfl));intro gb3 hg w6 hbox hb;have n0_:=Aside0.mk (Kd.R_below (by (with_reducible repeat (first|apply Kd.R_alloc|apply Kd.R_drewN|apply Kd.R_drew));exact HO0_3.out) hb);have n1_:=Aside0.mk (blk_below (g:=gb1) (o:=.cells #[.int .i64 a0_0,.int .i64 a0_1,.slice A0_2 l0_2.length c0_2,.slice Ao3 l0_3.length co3] 45 (0,0)) (by (with_reducible repeat (first|refine blk_drewN ?_ _|refine blk_drew ?_|refine blk_alloc ?_ _));exact BK1.out) hb);have n2_:=Aside0.mk (blk_below (g:=gb2) (o:=.cells #[.int .i64 a1_0,.int .i64 a1_1,.int .i64 a1_2,.string a1_3,.bool a1_4,.bool a1_5,.bool a1_6,.int .i64 a1_7,.int .i64 a1_8,.int .i64 a1_9] 56 (0,0)) (by (with_reducible repeat (first|refine blk_drewN ?_ _|refine blk_drew ?_|refine blk_alloc ?_ _));exact BK2.out) hb);have n3_:=Aside0.mk (Kept.below (S:=(fun k_=>P0_3_ k_)) (by repeat (first|(with_reducible first|exact HK.out|apply Kept.alloc|apply Kept.drewN|apply Kept.drew|refine Kept.setCell ?_ (.inr GW1.out) _|refine Kept.setCell ?_ (.inr GW2.out) _)|exact HK.out)) hb);have n4_:=Aside0.mk (below_step (by repeat (first|(with_reducible first|exact HB.out|apply below_alloc|apply pw_below_drewN|apply below_drew1|refine below_set ?_ GE1.out|refine below_set ?_ GE2.out)|exact HB.out)) hb);have n5_:=Aside0.mk (hbox);have n6_:=Aside0.mk ((by rw [hg];exact (by first|exact HK.out.1|exact (show Kept w _ (fun k_=>P0_3_ k_) from by repeat (first|(with_reducible first|exact HK.out|apply Kept.alloc|apply Kept.drewN|apply Kept.drew|refine Kept.setCell ?_ (.inr GW1.out) _|refine Kept.setCell ?_ (.inr GW2.out) _)|exact HK.out)).1):w.heap.size≤gb3));have n7_:=Aside0.mk ((by rw [hg];exact (below_size (by repeat (first|(with_reducible first|exact HB.out|apply below_alloc|apply pw_below_drewN|apply below_drew1|refine below_set ?_ GE1.out|refine below_set ?_ GE2.out)|exact HB.out))):w0.heap.size≤gb3));have n8_:=Aside0.mk ((by rw [hg];exact Nat.ne_of_lt (blk_lt (g:=gb1) (o:=.cells #[.int .i64 a0_0,.int .i64 a0_1,.slice A0_2 l0_2.length c0_2,.slice Ao3 l0_3.length co3] 45 (0,0)) (by (with_reducible repeat (first|refine blk_drewN ?_ _|refine blk_drew ?_|refine blk_alloc ?_ _));exact BK1.out)):gb1≠gb3));have n9_:=Aside0.mk ((by rw [hg];exact Nat.ne_of_gt (blk_lt (g:=gb1) (o:=.cells #[.int .i64 a0_0,.int .i64 a0_1,.slice A0_2 l0_2.length c0_2,.slice Ao3 l0_3.length co3] 45 (0,0)) (by (with_reducible repeat (first|refine blk_drewN ?_ _|refine blk_drew ?_|refine blk_alloc ?_ _));exact BK1.out)):gb3≠gb1));have n10_:=Aside0.mk ((by rw [hg];exact Nat.ne_of_lt (blk_lt (g:=gb2) (o:=.cells #[.int .i64 a1_0,.int .i64 a1_1,.int .i64 a1_2,.string a1_3,.bool a1_4,.bool a1_5,.bool a1_6,.int .i64 a1_7,.int .i64 a1_8,.int .i64 a1_9] 56 (0,0)) (by (with_reducible repeat (first|refine blk_drewN ?_ _|refine blk_drew ?_|refine blk_alloc ?_ _));exact BK2.out)):gb2≠gb3));have n11_:=Aside0.mk ((by rw [hg];exact Nat.ne_of_gt (blk_lt (g:=gb2) (o:=.cells #[.int .i64 a1_0,.int .i64 a1_1,.int .i64 a1_2,.string a1_3,.bool a1_4,.bool a1_5,.bool a1_6,.int .i64 a1_7,.int .i64 a1_8,.int .i64 a1_9] 56 (0,0)) (by (with_reducible repeat (first|refine blk_drewN ?_ _|refine blk_drew ?_|refine blk_alloc ?_ _));exact BK2.out)):gb3≠gb2));clear HO0_3;clear BK1;clear BK2;clear HK;clear HB;have HO0_3:=n0_;have BK1:=n1_;have BK2:=n2_;have HK:=n3_;have HB:=n4_;have BK3:=n5_;have GW3:=n6_;have GE3:=n7_;have NB1_3:=n8_;have NB3_1:=n9_;have NB2_3:=n10_;have NB3_2:=n11_;clear n0_ n1_ n2_ n3_ n4_ n5_ n6_ n7_ n8_ n9_ n10_ n11_;clear hb hbox hg)))
 go_loopg [5,6] k (fun kq v5 v6 w'=>∃ (x5_1:List (S56)) (x6_1:Int),v6=.int .i64 x6_1∧Aside0 (mosaicref18_Table_with.l0 kq x5_1 x6_1 a0_0 a0_1 l0_2 l0_3 a1_0 a1_1 a1_2 a1_3 a1_4 a1_5 a1_6 a1_7 a1_8 a1_9=some (r1,r2,r3,r4))∧Aside0 (kq≤k)∧Aside0 (Kd.R k56 56 w' w0.heap.size (fun k_=>(P0_3_ k_∨w.heap.size≤k_)∧k_≠gb2) v5 x5_1)∧Aside0 (Kd.R (Kd.int .i64) 3 w' w0.heap.size (fun k_=>(P0_3_ k_∨w.heap.size≤k_)) (.slice Ao3 l0_3.length co3) l0_3)∧Aside0 (w'.heap[gb1]?=some (.cells #[.int .i64 a0_0,.int .i64 a0_1,(.slice A0_2 l0_2.length c0_2),(.slice Ao3 l0_3.length co3)] 45 (0,0)))∧Aside0 (w'.heap[gb2]?=some (.cells #[.int .i64 a1_0,.int .i64 a1_1,.int .i64 a1_2,.string a1_3,.bool a1_4,.bool a1_5,.bool a1_6,.int .i64 a1_7,.int .i64 a1_8,.int .i64 a1_9] 56 (0,0)))∧Aside0 (w'.heap[gb3]?=some (.cells #[.int .i64 0,.int .i64 0,(.slice none 0 0),(.slice none 0 0)] 45 (0,0)))∧Aside0 (Kept w w' (fun k_=>P0_3_ k_))∧Aside0 (Below w0.heap.size w0 w'))
 case atStart=>exact ⟨(([]:List (S56))),(0),(by first|rfl|(simp;done)|(simp [*];done)),H',⟨Nat.le_refl _⟩,⟨by first|exact Kd.R_nil _ _ _ _ _|exact Kd.N_nil _ _ _ _ _|exact Kd.V_nil _ _ _ _ _|exact Kd.Q_nil _ _ _ _ _|exact Kd.S_nil _ _ _ _ _⟩,⟨by (with_reducible repeat (first|apply Kd.R_alloc|apply Kd.R_drewN|apply Kd.R_drew));exact HO0_3.out⟩,⟨by (with_reducible repeat (first|refine blk_drewN ?_ _|refine blk_drew ?_|refine blk_alloc ?_ _));exact BK1.out⟩,⟨by (with_reducible repeat (first|refine blk_drewN ?_ _|refine blk_drew ?_|refine blk_alloc ?_ _));exact BK2.out⟩,⟨by (with_reducible repeat (first|refine blk_drewN ?_ _|refine blk_drew ?_|refine blk_alloc ?_ _));exact BK3.out⟩,⟨by repeat (first|(with_reducible first|exact HK.out|apply Kept.alloc|apply Kept.drewN|apply Kept.drew|refine Kept.setCell ?_ (.inr GW1.out) _|refine Kept.setCell ?_ (.inr GW2.out) _|refine Kept.setCell ?_ (.inr GW3.out) _)|exact HK.out)⟩,⟨by repeat (first|(with_reducible first|exact HB.out|apply below_alloc|apply pw_below_drewN|apply below_drew1|refine below_set ?_ GE1.out|refine below_set ?_ GE2.out|refine below_set ?_ GE3.out)|exact HB.out)⟩⟩
 case round =>
  clear H'
  try clear p2
  obtain ⟨x5_1,x6_1,rfl,HA,HK1,HO_5,HO_2003,BK1,BK2,BK3,HK,HB⟩:=hrel
  cases gk with
  | zero=>exact absurd HA.out (by simp [mosaicref18_Table_with.l0])
  | succ k1 =>
   have H:=HA.out
   clear HA
   simp only [mosaicref18_Table_with.l0] at H
   by_cases c7:x6_1 < (l0_2.length:Int)
   ·
    rw [if_pos c7] at H
    have c7b0:decide (x6_1 < (l0_2.length:Int))=true:=decide_eq_true c7
    clear c7
    by_cases c8:0≤x6_1
    ·
     rw [if_pos c8] at H
     have c8b0:decide (0≤x6_1)=true:=decide_eq_true c8
     clear c8
     by_cases c9:((rd_T56 l0_2 x6_1).f0)=a1_0
     ·
      rw [if_pos c9] at H
      have c9b0:(((rd_T56 l0_2 x6_1).f0) == a1_0)=true:=beq_iff_eq.mpr c9
      have c9b1:(((rd_T56 l0_2 x6_1).f0) != a1_0)=false:=bne_eq_false_iff_eq.mpr c9
      clear c9
      by_cases c10:x5_1.length < 1954687338268
      ·
       rw [if_pos c10] at H
       have LMc10:=Aside0.mk c10
       clear c10
       obtain ⟨y5,hy5⟩:∃ y_:List (S56),y_=(x5_1 ++ [(⟨a1_0,(⟨a1_1,a1_2⟩:S54),a1_3,a1_4,a1_5,a1_6,a1_7,a1_8,a1_9⟩:S56)]):=⟨_,rfl⟩
       replace H:(mosaicref18_Table_with.l0 k1 y5 (wrap64 (x6_1+1)) a0_0 a0_1 l0_2 l0_3 a1_0 a1_1 a1_2 a1_3 a1_4 a1_5 a1_6 a1_7 a1_8 a1_9)=some (r1,r2,r3,r4):=by first|(rw [hy5];with_reducible exact H)|(have H2_:=(Option.bind_some _ _).symm.trans H;rw [hy5];with_reducible exact H2_)|(have H2_:=(Option.bind_some _ _).symm.trans H;with_reducible exact H2_)|with_reducible exact H|(rw [hy5];exact H)|exact H
       have Ny5:=Aside0.mk hy5
       clear hy5
       have H':=Aside0.mk H
       clear H
       have hnb11:=NB1_2.out
       have hnc11:=NB2_1.out
       have hnb12:=NB1_3.out
       have hnc12:=NB3_1.out
       have hcz13_0:wr.cell? ⟨gb1,0,none⟩=some (.int .i64 a0_0):=(blk_cell BK1.out 0).trans rfl
       have hcz13_1:wr.cell? ⟨gb1,1,none⟩=some (.int .i64 a0_1):=(blk_cell BK1.out 1).trans rfl
       have hcz13_2:wr.cell? ⟨gb1,2,none⟩=some (.slice A0_2 l0_2.length c0_2):=(blk_cell BK1.out 2).trans rfl
       have hcz13_3:wr.cell? ⟨gb1,3,none⟩=some (.slice Ao3 l0_3.length co3):=(blk_cell BK1.out 3).trans rfl
       have hfz13_0:=blk_frozen BK1.out 0
       have hfz13_1:=blk_frozen BK1.out 1
       have hfz13_2:=blk_frozen BK1.out 2
       have hfz13_3:=blk_frozen BK1.out 3
       have p4:0≤(x6_1:Int):=of_decide_eq_true (by first|(with_reducible assumption)|assumption)
       have q4:x6_1 < (l0_2.length:Int):=of_decide_eq_true (by first|(with_reducible assumption)|assumption)
       obtain ⟨ad4,e4,hx4_0,hx4_1,hx4_2,hx4_3,hx4_4,hx4_5,hx4_6,hx4_7,hx4_8,hx4_9⟩:=at_T56 (Kd.C_kept_now HR0_2.out HK.out) x6_1 p4 q4
       cases e4
       replace p4:=eq_true p4
       replace q4:=eq_true q4
       have hnb14:=NB2_3.out
       have hnc14:=NB3_2.out
       have hcz15_0:wr.cell? ⟨gb2,0,none⟩=some (.int .i64 a1_0):=(blk_cell BK2.out 0).trans rfl
       have hcz15_1:wr.cell? ⟨gb2,1,none⟩=some (.int .i64 a1_1):=(blk_cell BK2.out 1).trans rfl
       have hcz15_2:wr.cell? ⟨gb2,2,none⟩=some (.int .i64 a1_2):=(blk_cell BK2.out 2).trans rfl
       have hcz15_3:wr.cell? ⟨gb2,3,none⟩=some (.string a1_3):=(blk_cell BK2.out 3).trans rfl
       have hcz15_4:wr.cell? ⟨gb2,4,none⟩=some (.bool a1_4):=(blk_cell BK2.out 4).trans rfl
       have hcz15_5:wr.cell? ⟨gb2,5,none⟩=some (.bool a1_5):=(blk_cell BK2.out 5).trans rfl
       have hcz15_6:wr.cell? ⟨gb2,6,none⟩=some (.bool a1_6):=(blk_cell BK2.out 6).trans rfl
       have hcz15_7:wr.cell? ⟨gb2,7,none⟩=some (.int .i64 a1_7):=(blk_cell BK2.out 7).trans rfl
       have hcz15_8:wr.cell? ⟨gb2,8,none⟩=some (.int .i64 a1_8):=(blk_cell BK2.out 8).trans rfl
       have hcz15_9:wr.cell? ⟨gb2,9,none⟩=some (.int .i64 a1_9):=(blk_cell BK2.out 9).trans rfl
       have hfz15_0:=blk_frozen BK2.out 0
       have hfz15_1:=blk_frozen BK2.out 1
       have hfz15_2:=blk_frozen BK2.out 2
       have hfz15_3:=blk_frozen BK2.out 3
       have hfz15_4:=blk_frozen BK2.out 4
       have hfz15_5:=blk_frozen BK2.out 5
       have hfz15_6:=blk_frozen BK2.out 6
       have hfz15_7:=blk_frozen BK2.out 7
       have hfz15_8:=blk_frozen BK2.out 8
       have hfz15_9:=blk_frozen BK2.out 9
       go_wp2_with (first|((with_reducible refine gate_builtin (b:=.append) (xs:=#[.tmp 23,.tmp 25]) rfl ?_);at_builtin;refine Kd.R_append k56 (w0:=w0) w0.heap.size rfl (.tmp 23) (.tmp 25) 43 56 (.agg #[(.int .i64 0),(.int .i64 0),(.int .i64 0),(.string ⟨#[]⟩),(.bool false),(.bool false),(.bool false),(.int .i64 0),(.int .i64 0),(.int .i64 0)]) 72 rfl Try.underlying43 info56 rfl (by decide) (by omega) u5 x5_1 (⟨a1_0,(⟨a1_1,a1_2⟩:S54),a1_3,a1_4,a1_5,a1_6,a1_7,a1_8,a1_9⟩:S56) [.int .i64 a1_0,.int .i64 a1_1,.int .i64 a1_2,.string a1_3,.bool a1_4,.bool a1_5,.bool a1_6,.int .i64 a1_7,.int .i64 a1_8,.int .i64 a1_9] (fun k_=>(P0_3_ k_∨w.heap.size≤k_)∧k_≠gb2) (fun _=>False) rfl rfl ?aP (fun _ hk=>hk.elim) ?aF ?aO ?aB ?aS ?aL ?_;(case aP=>exact k56_mkM _ _ _ (⟨a1_0,(⟨a1_1,a1_2⟩:S54),a1_3,a1_4,a1_5,a1_6,a1_7,a1_8,a1_9⟩:S56));(case aB=>exact (by repeat (first|(with_reducible first|exact HB.out|apply below_alloc|apply pw_below_drewN|apply below_drew1|refine below_set ?_ GE1.out|refine below_set ?_ GE2.out|refine below_set ?_ GE3.out)|exact HB.out)));(case aF=>exact (fun k_ hk=>⟨(.inr (Nat.le_trans (by first|exact HK.out.1|exact (show Kept w _ (fun k_=>P0_3_ k_) from by repeat (first|(with_reducible first|exact HK.out|apply Kept.alloc|apply Kept.drewN|apply Kept.drew|refine Kept.setCell ?_ (.inr GW1.out) _|refine Kept.setCell ?_ (.inr GW2.out) _|refine Kept.setCell ?_ (.inr GW3.out) _)|exact HK.out)).1) hk)),Kd.freshB (g:=gb2) (o:=.cells #[.int .i64 a1_0,.int .i64 a1_1,.int .i64 a1_2,.string a1_3,.bool a1_4,.bool a1_5,.bool a1_6,.int .i64 a1_7,.int .i64 a1_8,.int .i64 a1_9] 56 (0,0)) (by (with_reducible repeat (first|refine blk_drewN ?_ _|refine blk_drew ?_|refine blk_alloc ?_ _));exact BK2.out) k_ hk⟩));(case aO=>exact (by (with_reducible repeat (first|apply Kd.R_alloc|apply Kd.R_drewN|apply Kd.R_drew));exact HO_5.out));(case aS=>exact (below_size (by repeat (first|(with_reducible first|exact HB.out|apply below_alloc|apply pw_below_drewN|apply below_drew1|refine below_set ?_ GE1.out|refine below_set ?_ GE2.out|refine below_set ?_ GE3.out)|exact HB.out))));(case aL=>have:=LMc10.out;omega);intro v6 w16 ho hb hg hat;rw [← Ny5.out] at ho;have n0_:=Aside0.mk (Kd.R_over' (by (with_reducible repeat (first|apply Kd.R_alloc|apply Kd.R_drewN|apply Kd.R_drew));exact HO_2003.out) (Kd.R_typed (by (with_reducible repeat (first|apply Kd.R_alloc|apply Kd.R_drewN|apply Kd.R_drew));exact HO_5.out)) (by decide) hg);have n1_:=Aside0.mk (blk_grown (g:=gb1) (o:=.cells #[.int .i64 a0_0,.int .i64 a0_1,.slice (some ad4) l0_2.length c0_2,.slice Ao3 l0_3.length co3] 45 (0,0)) (by (with_reducible repeat (first|refine blk_drewN ?_ _|refine blk_drew ?_|refine blk_alloc ?_ _));exact BK1.out) hg (Kd.R_ne HO_5.out BK1.out (by decide)));have n2_:=Aside0.mk (blk_grown (g:=gb2) (o:=.cells #[.int .i64 a1_0,.int .i64 a1_1,.int .i64 a1_2,.string a1_3,.bool a1_4,.bool a1_5,.bool a1_6,.int .i64 a1_7,.int .i64 a1_8,.int .i64 a1_9] 56 (0,0)) (by (with_reducible repeat (first|refine blk_drewN ?_ _|refine blk_drew ?_|refine blk_alloc ?_ _));exact BK2.out) hg (Kd.R_away HO_5.out (fun _ hk=>hk.2)));have n3_:=Aside0.mk (blk_grown (g:=gb3) (o:=.cells #[.int .i64 0,.int .i64 0,.slice none 0 0,.slice none 0 0] 45 (0,0)) (by (with_reducible repeat (first|refine blk_drewN ?_ _|refine blk_drew ?_|refine blk_alloc ?_ _));exact BK3.out) hg (Kd.R_ne HO_5.out BK3.out (by decide)));have n4_:=Aside0.mk (hb);have n5_:=Aside0.mk (Kept.of_grown (S:=(fun k_=>P0_3_ k_)) hg (by repeat (first|(with_reducible first|exact HK.out|apply Kept.alloc|apply Kept.drewN|apply Kept.drew|refine Kept.setCell ?_ (.inr GW1.out) _|refine Kept.setCell ?_ (.inr GW2.out) _|refine Kept.setCell ?_ (.inr GW3.out) _)|exact HK.out)) (fun k_ e_=>(HO_5.out.1 k_ e_).1));have n6_:=Aside0.mk (ho);clear HO_2003;clear BK1;clear BK2;clear BK3;clear HB;clear HK;clear HO_5;have HO_2003:=n0_;have BK1:=n1_;have BK2:=n2_;have BK3:=n3_;have HB:=n4_;have HK:=n5_;have HO7:=n6_;clear n0_ n1_ n2_ n3_ n4_ n5_ n6_;clear ho hb hg hat))
       repeat (go_quiet (first|((with_reducible refine gate_builtin (b:=.append) (xs:=#[.tmp 23,.tmp 25]) rfl ?_);at_builtin;refine Kd.R_append k56 (w0:=w0) w0.heap.size rfl (.tmp 23) (.tmp 25) 43 56 (.agg #[(.int .i64 0),(.int .i64 0),(.int .i64 0),(.string ⟨#[]⟩),(.bool false),(.bool false),(.bool false),(.int .i64 0),(.int .i64 0),(.int .i64 0)]) 72 rfl Try.underlying43 info56 rfl (by decide) (by omega) u5 x5_1 (⟨a1_0,(⟨a1_1,a1_2⟩:S54),a1_3,a1_4,a1_5,a1_6,a1_7,a1_8,a1_9⟩:S56) [.int .i64 a1_0,.int .i64 a1_1,.int .i64 a1_2,.string a1_3,.bool a1_4,.bool a1_5,.bool a1_6,.int .i64 a1_7,.int .i64 a1_8,.int .i64 a1_9] (fun k_=>(P0_3_ k_∨w.heap.size≤k_)∧k_≠gb2) (fun _=>False) rfl rfl ?aP (fun _ hk=>hk.elim) ?aF ?aO ?aB ?aS ?aL ?_;(case aP=>exact k56_mkM _ _ _ (⟨a1_0,(⟨a1_1,a1_2⟩:S54),a1_3,a1_4,a1_5,a1_6,a1_7,a1_8,a1_9⟩:S56));(case aB=>exact (by repeat (first|(with_reducible first|exact HB.out|apply below_alloc|apply pw_below_drewN|apply below_drew1|refine below_set ?_ GE1.out|refine below_set ?_ GE2.out|refine below_set ?_ GE3.out)|exact HB.out)));(case aF=>exact (fun k_ hk=>⟨(.inr (Nat.le_trans (by first|exact HK.out.1|exact (show Kept w _ (fun k_=>P0_3_ k_) from by repeat (first|(with_reducible first|exact HK.out|apply Kept.alloc|apply Kept.drewN|apply Kept.drew|refine Kept.setCell ?_ (.inr GW1.out) _|refine Kept.setCell ?_ (.inr GW2.out) _|refine Kept.setCell ?_ (.inr GW3.out) _)|exact HK.out)).1) hk)),Kd.freshB (g:=gb2) (o:=.cells #[.int .i64 a1_0,.int .i64 a1_1,.int .i64 a1_2,.string a1_3,.bool a1_4,.bool a1_5,.bool a1_6,.int .i64 a1_7,.int .i64 a1_8,.int .i64 a1_9] 56 (0,0)) (by (with_reducible repeat (first|refine blk_drewN ?_ _|refine blk_drew ?_|refine blk_alloc ?_ _));exact BK2.out) k_ hk⟩));(case aO=>exact (by (with_reducible repeat (first|apply Kd.R_alloc|apply Kd.R_drewN|apply Kd.R_drew));exact HO_5.out));(case aS=>exact (below_size (by repeat (first|(with_reducible first|exact HB.out|apply below_alloc|apply pw_below_drewN|apply below_drew1|refine below_set ?_ GE1.out|refine below_set ?_ GE2.out|refine below_set ?_ GE3.out)|exact HB.out))));(case aL=>have:=LMc10.out;omega);intro v6 w16 ho hb hg hat;rw [← Ny5.out] at ho;have n0_:=Aside0.mk (Kd.R_over' (by (with_reducible repeat (first|apply Kd.R_alloc|apply Kd.R_drewN|apply Kd.R_drew));exact HO_2003.out) (Kd.R_typed (by (with_reducible repeat (first|apply Kd.R_alloc|apply Kd.R_drewN|apply Kd.R_drew));exact HO_5.out)) (by decide) hg);have n1_:=Aside0.mk (blk_grown (g:=gb1) (o:=.cells #[.int .i64 a0_0,.int .i64 a0_1,.slice (some ad4) l0_2.length c0_2,.slice Ao3 l0_3.length co3] 45 (0,0)) (by (with_reducible repeat (first|refine blk_drewN ?_ _|refine blk_drew ?_|refine blk_alloc ?_ _));exact BK1.out) hg (Kd.R_ne HO_5.out BK1.out (by decide)));have n2_:=Aside0.mk (blk_grown (g:=gb2) (o:=.cells #[.int .i64 a1_0,.int .i64 a1_1,.int .i64 a1_2,.string a1_3,.bool a1_4,.bool a1_5,.bool a1_6,.int .i64 a1_7,.int .i64 a1_8,.int .i64 a1_9] 56 (0,0)) (by (with_reducible repeat (first|refine blk_drewN ?_ _|refine blk_drew ?_|refine blk_alloc ?_ _));exact BK2.out) hg (Kd.R_away HO_5.out (fun _ hk=>hk.2)));have n3_:=Aside0.mk (blk_grown (g:=gb3) (o:=.cells #[.int .i64 0,.int .i64 0,.slice none 0 0,.slice none 0 0] 45 (0,0)) (by (with_reducible repeat (first|refine blk_drewN ?_ _|refine blk_drew ?_|refine blk_alloc ?_ _));exact BK3.out) hg (Kd.R_ne HO_5.out BK3.out (by decide)));have n4_:=Aside0.mk (hb);have n5_:=Aside0.mk (Kept.of_grown (S:=(fun k_=>P0_3_ k_)) hg (by repeat (first|(with_reducible first|exact HK.out|apply Kept.alloc|apply Kept.drewN|apply Kept.drew|refine Kept.setCell ?_ (.inr GW1.out) _|refine Kept.setCell ?_ (.inr GW2.out) _|refine Kept.setCell ?_ (.inr GW3.out) _)|exact HK.out)) (fun k_ e_=>(HO_5.out.1 k_ e_).1));have n6_:=Aside0.mk (ho);clear HO_2003;clear BK1;clear BK2;clear BK3;clear HB;clear HK;clear HO_5;have HO_2003:=n0_;have BK1:=n1_;have BK2:=n2_;have BK3:=n3_;have HB:=n4_;have HK:=n5_;have HO7:=n6_;clear n0_ n1_ n2_ n3_ n4_ n5_ n6_;clear ho hb hg hat));try go_wp2_with (first|((with_reducible refine gate_builtin (b:=.append) (xs:=#[.tmp 23,.tmp 25]) rfl ?_);at_builtin;refine Kd.R_append k56 (w0:=w0) w0.heap.size rfl (.tmp 23) (.tmp 25) 43 56 (.agg #[(.int .i64 0),(.int .i64 0),(.int .i64 0),(.string ⟨#[]⟩),(.bool false),(.bool false),(.bool false),(.int .i64 0),(.int .i64 0),(.int .i64 0)]) 72 rfl Try.underlying43 info56 rfl (by decide) (by omega) u5 x5_1 (⟨a1_0,(⟨a1_1,a1_2⟩:S54),a1_3,a1_4,a1_5,a1_6,a1_7,a1_8,a1_9⟩:S56) [.int .i64 a1_0,.int .i64 a1_1,.int .i64 a1_2,.string a1_3,.bool a1_4,.bool a1_5,.bool a1_6,.int .i64 a1_7,.int .i64 a1_8,.int .i64 a1_9] (fun k_=>(P0_3_ k_∨w.heap.size≤k_)∧k_≠gb2) (fun _=>False) rfl rfl ?aP (fun _ hk=>hk.elim) ?aF ?aO ?aB ?aS ?aL ?_;(case aP=>exact k56_mkM _ _ _ (⟨a1_0,(⟨a1_1,a1_2⟩:S54),a1_3,a1_4,a1_5,a1_6,a1_7,a1_8,a1_9⟩:S56));(case aB=>exact (by repeat (first|(with_reducible first|exact HB.out|apply below_alloc|apply pw_below_drewN|apply below_drew1|refine below_set ?_ GE1.out|refine below_set ?_ GE2.out|refine below_set ?_ GE3.out)|exact HB.out)));(case aF=>exact (fun k_ hk=>⟨(.inr (Nat.le_trans (by first|exact HK.out.1|exact (show Kept w _ (fun k_=>P0_3_ k_) from by repeat (first|(with_reducible first|exact HK.out|apply Kept.alloc|apply Kept.drewN|apply Kept.drew|refine Kept.setCell ?_ (.inr GW1.out) _|refine Kept.setCell ?_ (.inr GW2.out) _|refine Kept.setCell ?_ (.inr GW3.out) _)|exact HK.out)).1) hk)),Kd.freshB (g:=gb2) (o:=.cells #[.int .i64 a1_0,.int .i64 a1_1,.int .i64 a1_2,.string a1_3,.bool a1_4,.bool a1_5,.bool a1_6,.int .i64 a1_7,.int .i64 a1_8,.int .i64 a1_9] 56 (0,0)) (by (with_reducible repeat (first|refine blk_drewN ?_ _|refine blk_drew ?_|refine blk_alloc ?_ _));exact BK2.out) k_ hk⟩));(case aO=>exact (by (with_reducible repeat (first|apply Kd.R_alloc|apply Kd.R_drewN|apply Kd.R_drew));exact HO_5.out));(case aS=>exact (below_size (by repeat (first|(with_reducible first|exact HB.out|apply below_alloc|apply pw_below_drewN|apply below_drew1|refine below_set ?_ GE1.out|refine below_set ?_ GE2.out|refine below_set ?_ GE3.out)|exact HB.out))));(case aL=>have:=LMc10.out;omega);intro v6 w16 ho hb hg hat;rw [← Ny5.out] at ho;have n0_:=Aside0.mk (Kd.R_over' (by (with_reducible repeat (first|apply Kd.R_alloc|apply Kd.R_drewN|apply Kd.R_drew));exact HO_2003.out) (Kd.R_typed (by (with_reducible repeat (first|apply Kd.R_alloc|apply Kd.R_drewN|apply Kd.R_drew));exact HO_5.out)) (by decide) hg);have n1_:=Aside0.mk (blk_grown (g:=gb1) (o:=.cells #[.int .i64 a0_0,.int .i64 a0_1,.slice (some ad4) l0_2.length c0_2,.slice Ao3 l0_3.length co3] 45 (0,0)) (by (with_reducible repeat (first|refine blk_drewN ?_ _|refine blk_drew ?_|refine blk_alloc ?_ _));exact BK1.out) hg (Kd.R_ne HO_5.out BK1.out (by decide)));have n2_:=Aside0.mk (blk_grown (g:=gb2) (o:=.cells #[.int .i64 a1_0,.int .i64 a1_1,.int .i64 a1_2,.string a1_3,.bool a1_4,.bool a1_5,.bool a1_6,.int .i64 a1_7,.int .i64 a1_8,.int .i64 a1_9] 56 (0,0)) (by (with_reducible repeat (first|refine blk_drewN ?_ _|refine blk_drew ?_|refine blk_alloc ?_ _));exact BK2.out) hg (Kd.R_away HO_5.out (fun _ hk=>hk.2)));have n3_:=Aside0.mk (blk_grown (g:=gb3) (o:=.cells #[.int .i64 0,.int .i64 0,.slice none 0 0,.slice none 0 0] 45 (0,0)) (by (with_reducible repeat (first|refine blk_drewN ?_ _|refine blk_drew ?_|refine blk_alloc ?_ _));exact BK3.out) hg (Kd.R_ne HO_5.out BK3.out (by decide)));have n4_:=Aside0.mk (hb);have n5_:=Aside0.mk (Kept.of_grown (S:=(fun k_=>P0_3_ k_)) hg (by repeat (first|(with_reducible first|exact HK.out|apply Kept.alloc|apply Kept.drewN|apply Kept.drew|refine Kept.setCell ?_ (.inr GW1.out) _|refine Kept.setCell ?_ (.inr GW2.out) _|refine Kept.setCell ?_ (.inr GW3.out) _)|exact HK.out)) (fun k_ e_=>(HO_5.out.1 k_ e_).1));have n6_:=Aside0.mk (ho);clear HO_2003;clear BK1;clear BK2;clear BK3;clear HB;clear HK;clear HO_5;have HO_2003:=n0_;have BK1:=n1_;have BK2:=n2_;have BK3:=n3_;have HB:=n4_;have HK:=n5_;have HO7:=n6_;clear n0_ n1_ n2_ n3_ n4_ n5_ n6_;clear ho hb hg hat)))
       go_roundg k1
       case measure=>have:=HK1.out;omega
       case rel=>exact ⟨(y5),(wrap64 (x6_1+1)),(by first|rfl|(simp;done)|(simp [*];done)),H',⟨by have:=HK1.out;omega⟩,⟨by (with_reducible repeat (first|apply Kd.R_alloc|apply Kd.R_drewN|apply Kd.R_drew));exact HO7.out⟩,⟨by (with_reducible repeat (first|apply Kd.R_alloc|apply Kd.R_drewN|apply Kd.R_drew));exact HO_2003.out⟩,⟨by (with_reducible repeat (first|refine blk_drewN ?_ _|refine blk_drew ?_|refine blk_alloc ?_ _));exact BK1.out⟩,⟨by (with_reducible repeat (first|refine blk_drewN ?_ _|refine blk_drew ?_|refine blk_alloc ?_ _));exact BK2.out⟩,⟨by (with_reducible repeat (first|refine blk_drewN ?_ _|refine blk_drew ?_|refine blk_alloc ?_ _));exact BK3.out⟩,⟨by repeat (first|(with_reducible first|exact HK.out|apply Kept.alloc|apply Kept.drewN|apply Kept.drew|refine Kept.setCell ?_ (.inr GW1.out) _|refine Kept.setCell ?_ (.inr GW2.out) _|refine Kept.setCell ?_ (.inr GW3.out) _)|exact HK.out)⟩,⟨by repeat (first|(with_reducible first|exact HB.out|apply below_alloc|apply pw_below_drewN|apply below_drew1|refine below_set ?_ GE1.out|refine below_set ?_ GE2.out|refine below_set ?_ GE3.out)|exact HB.out)⟩⟩
      ·
       rw [if_neg c10] at H
       exact absurd H (by simp)
     ·
      rw [if_neg c9] at H
      have c9b0:(((rd_T56 l0_2 x6_1).f0) == a1_0)=false:=beq_eq_false_iff_ne.mpr c9
      have c9b1:(((rd_T56 l0_2 x6_1).f0) != a1_0)=true:=bne_iff_ne.mpr c9
      by_cases c17:x5_1.length < 1954687338268
      ·
       rw [if_pos c17] at H
       have LMc17:=Aside0.mk c17
       clear c17
       obtain ⟨y9,hy9⟩:∃ y_:List (S56),y_=(x5_1 ++ [(⟨(rd_T56 l0_2 x6_1).f0,(⟨(rd_T56 l0_2 x6_1).f1.f0,(rd_T56 l0_2 x6_1).f1.f1⟩:S54),(rd_T56 l0_2 x6_1).f2,(rd_T56 l0_2 x6_1).f3,(rd_T56 l0_2 x6_1).f4,(rd_T56 l0_2 x6_1).f5,(rd_T56 l0_2 x6_1).f6,(rd_T56 l0_2 x6_1).f7,(rd_T56 l0_2 x6_1).f8⟩:S56)]):=⟨_,rfl⟩
       replace H:(mosaicref18_Table_with.l0 k1 y9 (wrap64 (x6_1+1)) a0_0 a0_1 l0_2 l0_3 a1_0 a1_1 a1_2 a1_3 a1_4 a1_5 a1_6 a1_7 a1_8 a1_9)=some (r1,r2,r3,r4):=by first|(rw [hy9];with_reducible exact H)|(have H2_:=(Option.bind_some _ _).symm.trans H;rw [hy9];with_reducible exact H2_)|(have H2_:=(Option.bind_some _ _).symm.trans H;with_reducible exact H2_)|with_reducible exact H|(rw [hy9];exact H)|exact H
       have Ny9:=Aside0.mk hy9
       clear hy9
       have H':=Aside0.mk H
       clear H
       have hnb18:=NB1_2.out
       have hnc18:=NB2_1.out
       have hnb19:=NB1_3.out
       have hnc19:=NB3_1.out
       have hcz20_0:wr.cell? ⟨gb1,0,none⟩=some (.int .i64 a0_0):=(blk_cell BK1.out 0).trans rfl
       have hcz20_1:wr.cell? ⟨gb1,1,none⟩=some (.int .i64 a0_1):=(blk_cell BK1.out 1).trans rfl
       have hcz20_2:wr.cell? ⟨gb1,2,none⟩=some (.slice A0_2 l0_2.length c0_2):=(blk_cell BK1.out 2).trans rfl
       have hcz20_3:wr.cell? ⟨gb1,3,none⟩=some (.slice Ao3 l0_3.length co3):=(blk_cell BK1.out 3).trans rfl
       have hfz20_0:=blk_frozen BK1.out 0
       have hfz20_1:=blk_frozen BK1.out 1
       have hfz20_2:=blk_frozen BK1.out 2
       have hfz20_3:=blk_frozen BK1.out 3
       have p4:0≤(x6_1:Int):=of_decide_eq_true (by first|(with_reducible assumption)|assumption)
       have q4:x6_1 < (l0_2.length:Int):=of_decide_eq_true (by first|(with_reducible assumption)|assumption)
       obtain ⟨ad4,e4,hx4_0,hx4_1,hx4_2,hx4_3,hx4_4,hx4_5,hx4_6,hx4_7,hx4_8,hx4_9⟩:=at_T56 (Kd.C_kept_now HR0_2.out HK.out) x6_1 p4 q4
       cases e4
       replace p4:=eq_true p4
       replace q4:=eq_true q4
       have hnb21:=NB2_3.out
       have hnc21:=NB3_2.out
       have hcz22_0:wr.cell? ⟨gb2,0,none⟩=some (.int .i64 a1_0):=(blk_cell BK2.out 0).trans rfl
       have hcz22_1:wr.cell? ⟨gb2,1,none⟩=some (.int .i64 a1_1):=(blk_cell BK2.out 1).trans rfl
       have hcz22_2:wr.cell? ⟨gb2,2,none⟩=some (.int .i64 a1_2):=(blk_cell BK2.out 2).trans rfl
       have hcz22_3:wr.cell? ⟨gb2,3,none⟩=some (.string a1_3):=(blk_cell BK2.out 3).trans rfl
       have hcz22_4:wr.cell? ⟨gb2,4,none⟩=some (.bool a1_4):=(blk_cell BK2.out 4).trans rfl
       have hcz22_5:wr.cell? ⟨gb2,5,none⟩=some (.bool a1_5):=(blk_cell BK2.out 5).trans rfl
       have hcz22_6:wr.cell? ⟨gb2,6,none⟩=some (.bool a1_6):=(blk_cell BK2.out 6).trans rfl
       have hcz22_7:wr.cell? ⟨gb2,7,none⟩=some (.int .i64 a1_7):=(blk_cell BK2.out 7).trans rfl
       have hcz22_8:wr.cell? ⟨gb2,8,none⟩=some (.int .i64 a1_8):=(blk_cell BK2.out 8).trans rfl
       have hcz22_9:wr.cell? ⟨gb2,9,none⟩=some (.int .i64 a1_9):=(blk_cell BK2.out 9).trans rfl
       have hfz22_0:=blk_frozen BK2.out 0
       have hfz22_1:=blk_frozen BK2.out 1
       have hfz22_2:=blk_frozen BK2.out 2
       have hfz22_3:=blk_frozen BK2.out 3
       have hfz22_4:=blk_frozen BK2.out 4
       have hfz22_5:=blk_frozen BK2.out 5
       have hfz22_6:=blk_frozen BK2.out 6
       have hfz22_7:=blk_frozen BK2.out 7
       have hfz22_8:=blk_frozen BK2.out 8
       have hfz22_9:=blk_frozen BK2.out 9
       have p8:0≤(x6_1:Int):=of_decide_eq_true (by first|(with_reducible assumption)|assumption)
       have q8:x6_1 < (l0_2.length:Int):=of_decide_eq_true (by first|(with_reducible assumption)|assumption)
       obtain ⟨ad8,e8,hx8_0,hx8_1,hx8_2,hx8_3,hx8_4,hx8_5,hx8_6,hx8_7,hx8_8,hx8_9⟩:=at_T56 (Kd.C_kept_now HR0_2.out HK.out) x6_1 p8 q8
       obtain rfl:ad4=ad8:=(by injection e8)
       replace p8:=eq_true p8
       replace q8:=eq_true q8
       go_wp2_with (first|((with_reducible refine gate_builtin (b:=.append) (xs:=#[.tmp 27,.tmp 33]) rfl ?_);at_builtin;refine Kd.R_append k56 (w0:=w0) w0.heap.size rfl (.tmp 27) (.tmp 33) 43 56 (.agg #[(.int .i64 0),(.int .i64 0),(.int .i64 0),(.string ⟨#[]⟩),(.bool false),(.bool false),(.bool false),(.int .i64 0),(.int .i64 0),(.int .i64 0)]) 72 rfl Try.underlying43 info56 rfl (by decide) (by omega) u5 x5_1 (⟨(rd_T56 l0_2 x6_1).f0,(⟨(rd_T56 l0_2 x6_1).f1.f0,(rd_T56 l0_2 x6_1).f1.f1⟩:S54),(rd_T56 l0_2 x6_1).f2,(rd_T56 l0_2 x6_1).f3,(rd_T56 l0_2 x6_1).f4,(rd_T56 l0_2 x6_1).f5,(rd_T56 l0_2 x6_1).f6,(rd_T56 l0_2 x6_1).f7,(rd_T56 l0_2 x6_1).f8⟩:S56) [.int .i64 ((rd_T56 l0_2 x6_1).f0),.int .i64 ((rd_T56 l0_2 x6_1).f1.f0),.int .i64 ((rd_T56 l0_2 x6_1).f1.f1),.string ((rd_T56 l0_2 x6_1).f2),.bool ((rd_T56 l0_2 x6_1).f3),.bool ((rd_T56 l0_2 x6_1).f4),.bool ((rd_T56 l0_2 x6_1).f5),.int .i64 ((rd_T56 l0_2 x6_1).f6),.int .i64 ((rd_T56 l0_2 x6_1).f7),.int .i64 ((rd_T56 l0_2 x6_1).f8)] (fun k_=>(P0_3_ k_∨w.heap.size≤k_)∧k_≠gb2) (fun _=>False) rfl rfl ?aP (fun _ hk=>hk.elim) ?aF ?aO ?aB ?aS ?aL ?_;(case aP=>exact k56_mkM _ _ _ (⟨(rd_T56 l0_2 x6_1).f0,(⟨(rd_T56 l0_2 x6_1).f1.f0,(rd_T56 l0_2 x6_1).f1.f1⟩:S54),(rd_T56 l0_2 x6_1).f2,(rd_T56 l0_2 x6_1).f3,(rd_T56 l0_2 x6_1).f4,(rd_T56 l0_2 x6_1).f5,(rd_T56 l0_2 x6_1).f6,(rd_T56 l0_2 x6_1).f7,(rd_T56 l0_2 x6_1).f8⟩:S56));(case aB=>exact (by repeat (first|(with_reducible first|exact HB.out|apply below_alloc|apply pw_below_drewN|apply below_drew1|refine below_set ?_ GE1.out|refine below_set ?_ GE2.out|refine below_set ?_ GE3.out)|exact HB.out)));(case aF=>exact (fun k_ hk=>⟨(.inr (Nat.le_trans (by first|exact HK.out.1|exact (show Kept w _ (fun k_=>P0_3_ k_) from by repeat (first|(with_reducible first|exact HK.out|apply Kept.alloc|apply Kept.drewN|apply Kept.drew|refine Kept.setCell ?_ (.inr GW1.out) _|refine Kept.setCell ?_ (.inr GW2.out) _|refine Kept.setCell ?_ (.inr GW3.out) _)|exact HK.out)).1) hk)),Kd.freshB (g:=gb2) (o:=.cells #[.int .i64 a1_0,.int .i64 a1_1,.int .i64 a1_2,.string a1_3,.bool a1_4,.bool a1_5,.bool a1_6,.int .i64 a1_7,.int .i64 a1_8,.int .i64 a1_9] 56 (0,0)) (by (with_reducible repeat (first|refine blk_drewN ?_ _|refine blk_drew ?_|refine blk_alloc ?_ _));exact BK2.out) k_ hk⟩));(case aO=>exact (by (with_reducible repeat (first|apply Kd.R_alloc|apply Kd.R_drewN|apply Kd.R_drew));exact HO_5.out));(case aS=>exact (below_size (by repeat (first|(with_reducible first|exact HB.out|apply below_alloc|apply pw_below_drewN|apply below_drew1|refine below_set ?_ GE1.out|refine below_set ?_ GE2.out|refine below_set ?_ GE3.out)|exact HB.out))));(case aL=>have:=LMc17.out;omega);intro v10 w23 ho hb hg hat;rw [← Ny9.out] at ho;have n0_:=Aside0.mk (Kd.R_over' (by (with_reducible repeat (first|apply Kd.R_alloc|apply Kd.R_drewN|apply Kd.R_drew));exact HO_2003.out) (Kd.R_typed (by (with_reducible repeat (first|apply Kd.R_alloc|apply Kd.R_drewN|apply Kd.R_drew));exact HO_5.out)) (by decide) hg);have n1_:=Aside0.mk (blk_grown (g:=gb1) (o:=.cells #[.int .i64 a0_0,.int .i64 a0_1,.slice (some ad4) l0_2.length c0_2,.slice Ao3 l0_3.length co3] 45 (0,0)) (by (with_reducible repeat (first|refine blk_drewN ?_ _|refine blk_drew ?_|refine blk_alloc ?_ _));exact BK1.out) hg (Kd.R_ne HO_5.out BK1.out (by decide)));have n2_:=Aside0.mk (blk_grown (g:=gb2) (o:=.cells #[.int .i64 a1_0,.int .i64 a1_1,.int .i64 a1_2,.string a1_3,.bool a1_4,.bool a1_5,.bool a1_6,.int .i64 a1_7,.int .i64 a1_8,.int .i64 a1_9] 56 (0,0)) (by (with_reducible repeat (first|refine blk_drewN ?_ _|refine blk_drew ?_|refine blk_alloc ?_ _));exact BK2.out) hg (Kd.R_away HO_5.out (fun _ hk=>hk.2)));have n3_:=Aside0.mk (blk_grown (g:=gb3) (o:=.cells #[.int .i64 0,.int .i64 0,.slice none 0 0,.slice none 0 0] 45 (0,0)) (by (with_reducible repeat (first|refine blk_drewN ?_ _|refine blk_drew ?_|refine blk_alloc ?_ _));exact BK3.out) hg (Kd.R_ne HO_5.out BK3.out (by decide)));have n4_:=Aside0.mk (hb);have n5_:=Aside0.mk (Kept.of_grown (S:=(fun k_=>P0_3_ k_)) hg (by repeat (first|(with_reducible first|exact HK.out|apply Kept.alloc|apply Kept.drewN|apply Kept.drew|refine Kept.setCell ?_ (.inr GW1.out) _|refine Kept.setCell ?_ (.inr GW2.out) _|refine Kept.setCell ?_ (.inr GW3.out) _)|exact HK.out)) (fun k_ e_=>(HO_5.out.1 k_ e_).1));have n6_:=Aside0.mk (ho);clear HO_2003;clear BK1;clear BK2;clear BK3;clear HB;clear HK;clear HO_5;have HO_2003:=n0_;have BK1:=n1_;have BK2:=n2_;have BK3:=n3_;have HB:=n4_;have HK:=n5_;have HO11:=n6_;clear n0_ n1_ n2_ n3_ n4_ n5_ n6_;clear ho hb hg hat))
       repeat (go_quiet (first|((with_reducible refine gate_builtin (b:=.append) (xs:=#[.tmp 27,.tmp 33]) rfl ?_);at_builtin;refine Kd.R_append k56 (w0:=w0) w0.heap.size rfl (.tmp 27) (.tmp 33) 43 56 (.agg #[(.int .i64 0),(.int .i64 0),(.int .i64 0),(.string ⟨#[]⟩),(.bool false),(.bool false),(.bool false),(.int .i64 0),(.int .i64 0),(.int .i64 0)]) 72 rfl Try.underlying43 info56 rfl (by decide) (by omega) u5 x5_1 (⟨(rd_T56 l0_2 x6_1).f0,(⟨(rd_T56 l0_2 x6_1).f1.f0,(rd_T56 l0_2 x6_1).f1.f1⟩:S54),(rd_T56 l0_2 x6_1).f2,(rd_T56 l0_2 x6_1).f3,(rd_T56 l0_2 x6_1).f4,(rd_T56 l0_2 x6_1).f5,(rd_T56 l0_2 x6_1).f6,(rd_T56 l0_2 x6_1).f7,(rd_T56 l0_2 x6_1).f8⟩:S56) [.int .i64 ((rd_T56 l0_2 x6_1).f0),.int .i64 ((rd_T56 l0_2 x6_1).f1.f0),.int .i64 ((rd_T56 l0_2 x6_1).f1.f1),.string ((rd_T56 l0_2 x6_1).f2),.bool ((rd_T56 l0_2 x6_1).f3),.bool ((rd_T56 l0_2 x6_1).f4),.bool ((rd_T56 l0_2 x6_1).f5),.int .i64 ((rd_T56 l0_2 x6_1).f6),.int .i64 ((rd_T56 l0_2 x6_1).f7),.int .i64 ((rd_T56 l0_2 x6_1).f8)] (fun k_=>(P0_3_ k_∨w.heap.size≤k_)∧k_≠gb2) (fun _=>False) rfl rfl ?aP (fun _ hk=>hk.elim) ?aF ?aO ?aB ?aS ?aL ?_;(case aP=>exact k56_mkM _ _ _ (⟨(rd_T56 l0_2 x6_1).f0,(⟨(rd_T56 l0_2 x6_1).f1.f0,(rd_T56 l0_2 x6_1).f1.f1⟩:S54),(rd_T56 l0_2 x6_1).f2,(rd_T56 l0_2 x6_1).f3,(rd_T56 l0_2 x6_1).f4,(rd_T56 l0_2 x6_1).f5,(rd_T56 l0_2 x6_1).f6,(rd_T56 l0_2 x6_1).f7,(rd_T56 l0_2 x6_1).f8⟩:S56));(case aB=>exact (by repeat (first|(with_reducible first|exact HB.out|apply below_alloc|apply pw_below_drewN|apply below_drew1|refine below_set ?_ GE1.out|refine below_set ?_ GE2.out|refine below_set ?_ GE3.out)|exact HB.out)));(case aF=>exact (fun k_ hk=>⟨(.inr (Nat.le_trans (by first|exact HK.out.1|exact (show Kept w _ (fun k_=>P0_3_ k_) from by repeat (first|(with_reducible first|exact HK.out|apply Kept.alloc|apply Kept.drewN|apply Kept.drew|refine Kept.setCell ?_ (.inr GW1.out) _|refine Kept.setCell ?_ (.inr GW2.out) _|refine Kept.setCell ?_ (.inr GW3.out) _)|exact HK.out)).1) hk)),Kd.freshB (g:=gb2) (o:=.cells #[.int .i64 a1_0,.int .i64 a1_1,.int .i64 a1_2,.string a1_3,.bool a1_4,.bool a1_5,.bool a1_6,.int .i64 a1_7,.int .i64 a1_8,.int .i64 a1_9] 56 (0,0)) (by (with_reducible repeat (first|refine blk_drewN ?_ _|refine blk_drew ?_|refine blk_alloc ?_ _));exact BK2.out) k_ hk⟩));(case aO=>exact (by (with_reducible repeat (first|apply Kd.R_alloc|apply Kd.R_drewN|apply Kd.R_drew));exact HO_5.out));(case aS=>exact (below_size (by repeat (first|(with_reducible first|exact HB.out|apply below_alloc|apply pw_below_drewN|apply below_drew1|refine below_set ?_ GE1.out|refine below_set ?_ GE2.out|refine below_set ?_ GE3.out)|exact HB.out))));(case aL=>have:=LMc17.out;omega);intro v10 w23 ho hb hg hat;rw [← Ny9.out] at ho;have n0_:=Aside0.mk (Kd.R_over' (by (with_reducible repeat (first|apply Kd.R_alloc|apply Kd.R_drewN|apply Kd.R_drew));exact HO_2003.out) (Kd.R_typed (by (with_reducible repeat (first|apply Kd.R_alloc|apply Kd.R_drewN|apply Kd.R_drew));exact HO_5.out)) (by decide) hg);have n1_:=Aside0.mk (blk_grown (g:=gb1) (o:=.cells #[.int .i64 a0_0,.int .i64 a0_1,.slice (some ad4) l0_2.length c0_2,.slice Ao3 l0_3.length co3] 45 (0,0)) (by (with_reducible repeat (first|refine blk_drewN ?_ _|refine blk_drew ?_|refine blk_alloc ?_ _));exact BK1.out) hg (Kd.R_ne HO_5.out BK1.out (by decide)));have n2_:=Aside0.mk (blk_grown (g:=gb2) (o:=.cells #[.int .i64 a1_0,.int .i64 a1_1,.int .i64 a1_2,.string a1_3,.bool a1_4,.bool a1_5,.bool a1_6,.int .i64 a1_7,.int .i64 a1_8,.int .i64 a1_9] 56 (0,0)) (by (with_reducible repeat (first|refine blk_drewN ?_ _|refine blk_drew ?_|refine blk_alloc ?_ _));exact BK2.out) hg (Kd.R_away HO_5.out (fun _ hk=>hk.2)));have n3_:=Aside0.mk (blk_grown (g:=gb3) (o:=.cells #[.int .i64 0,.int .i64 0,.slice none 0 0,.slice none 0 0] 45 (0,0)) (by (with_reducible repeat (first|refine blk_drewN ?_ _|refine blk_drew ?_|refine blk_alloc ?_ _));exact BK3.out) hg (Kd.R_ne HO_5.out BK3.out (by decide)));have n4_:=Aside0.mk (hb);have n5_:=Aside0.mk (Kept.of_grown (S:=(fun k_=>P0_3_ k_)) hg (by repeat (first|(with_reducible first|exact HK.out|apply Kept.alloc|apply Kept.drewN|apply Kept.drew|refine Kept.setCell ?_ (.inr GW1.out) _|refine Kept.setCell ?_ (.inr GW2.out) _|refine Kept.setCell ?_ (.inr GW3.out) _)|exact HK.out)) (fun k_ e_=>(HO_5.out.1 k_ e_).1));have n6_:=Aside0.mk (ho);clear HO_2003;clear BK1;clear BK2;clear BK3;clear HB;clear HK;clear HO_5;have HO_2003:=n0_;have BK1:=n1_;have BK2:=n2_;have BK3:=n3_;have HB:=n4_;have HK:=n5_;have HO11:=n6_;clear n0_ n1_ n2_ n3_ n4_ n5_ n6_;clear ho hb hg hat));try go_wp2_with (first|((with_reducible refine gate_builtin (b:=.append) (xs:=#[.tmp 27,.tmp 33]) rfl ?_);at_builtin;refine Kd.R_append k56 (w0:=w0) w0.heap.size rfl (.tmp 27) (.tmp 33) 43 56 (.agg #[(.int .i64 0),(.int .i64 0),(.int .i64 0),(.string ⟨#[]⟩),(.bool false),(.bool false),(.bool false),(.int .i64 0),(.int .i64 0),(.int .i64 0)]) 72 rfl Try.underlying43 info56 rfl (by decide) (by omega) u5 x5_1 (⟨(rd_T56 l0_2 x6_1).f0,(⟨(rd_T56 l0_2 x6_1).f1.f0,(rd_T56 l0_2 x6_1).f1.f1⟩:S54),(rd_T56 l0_2 x6_1).f2,(rd_T56 l0_2 x6_1).f3,(rd_T56 l0_2 x6_1).f4,(rd_T56 l0_2 x6_1).f5,(rd_T56 l0_2 x6_1).f6,(rd_T56 l0_2 x6_1).f7,(rd_T56 l0_2 x6_1).f8⟩:S56) [.int .i64 ((rd_T56 l0_2 x6_1).f0),.int .i64 ((rd_T56 l0_2 x6_1).f1.f0),.int .i64 ((rd_T56 l0_2 x6_1).f1.f1),.string ((rd_T56 l0_2 x6_1).f2),.bool ((rd_T56 l0_2 x6_1).f3),.bool ((rd_T56 l0_2 x6_1).f4),.bool ((rd_T56 l0_2 x6_1).f5),.int .i64 ((rd_T56 l0_2 x6_1).f6),.int .i64 ((rd_T56 l0_2 x6_1).f7),.int .i64 ((rd_T56 l0_2 x6_1).f8)] (fun k_=>(P0_3_ k_∨w.heap.size≤k_)∧k_≠gb2) (fun _=>False) rfl rfl ?aP (fun _ hk=>hk.elim) ?aF ?aO ?aB ?aS ?aL ?_;(case aP=>exact k56_mkM _ _ _ (⟨(rd_T56 l0_2 x6_1).f0,(⟨(rd_T56 l0_2 x6_1).f1.f0,(rd_T56 l0_2 x6_1).f1.f1⟩:S54),(rd_T56 l0_2 x6_1).f2,(rd_T56 l0_2 x6_1).f3,(rd_T56 l0_2 x6_1).f4,(rd_T56 l0_2 x6_1).f5,(rd_T56 l0_2 x6_1).f6,(rd_T56 l0_2 x6_1).f7,(rd_T56 l0_2 x6_1).f8⟩:S56));(case aB=>exact (by repeat (first|(with_reducible first|exact HB.out|apply below_alloc|apply pw_below_drewN|apply below_drew1|refine below_set ?_ GE1.out|refine below_set ?_ GE2.out|refine below_set ?_ GE3.out)|exact HB.out)));(case aF=>exact (fun k_ hk=>⟨(.inr (Nat.le_trans (by first|exact HK.out.1|exact (show Kept w _ (fun k_=>P0_3_ k_) from by repeat (first|(with_reducible first|exact HK.out|apply Kept.alloc|apply Kept.drewN|apply Kept.drew|refine Kept.setCell ?_ (.inr GW1.out) _|refine Kept.setCell ?_ (.inr GW2.out) _|refine Kept.setCell ?_ (.inr GW3.out) _)|exact HK.out)).1) hk)),Kd.freshB (g:=gb2) (o:=.cells #[.int .i64 a1_0,.int .i64 a1_1,.int .i64 a1_2,.string a1_3,.bool a1_4,.bool a1_5,.bool a1_6,.int .i64 a1_7,.int .i64 a1_8,.int .i64 a1_9] 56 (0,0)) (by (with_reducible repeat (first|refine blk_drewN ?_ _|refine blk_drew ?_|refine blk_alloc ?_ _));exact BK2.out) k_ hk⟩));(case aO=>exact (by (with_reducible repeat (first|apply Kd.R_alloc|apply Kd.R_drewN|apply Kd.R_drew));exact HO_5.out));(case aS=>exact (below_size (by repeat (first|(with_reducible first|exact HB.out|apply below_alloc|apply pw_below_drewN|apply below_drew1|refine below_set ?_ GE1.out|refine below_set ?_ GE2.out|refine below_set ?_ GE3.out)|exact HB.out))));(case aL=>have:=LMc17.out;omega);intro v10 w23 ho hb hg hat;rw [← Ny9.out] at ho;have n0_:=Aside0.mk (Kd.R_over' (by (with_reducible repeat (first|apply Kd.R_alloc|apply Kd.R_drewN|apply Kd.R_drew));exact HO_2003.out) (Kd.R_typed (by (with_reducible repeat (first|apply Kd.R_alloc|apply Kd.R_drewN|apply Kd.R_drew));exact HO_5.out)) (by decide) hg);have n1_:=Aside0.mk (blk_grown (g:=gb1) (o:=.cells #[.int .i64 a0_0,.int .i64 a0_1,.slice (some ad4) l0_2.length c0_2,.slice Ao3 l0_3.length co3] 45 (0,0)) (by (with_reducible repeat (first|refine blk_drewN ?_ _|refine blk_drew ?_|refine blk_alloc ?_ _));exact BK1.out) hg (Kd.R_ne HO_5.out BK1.out (by decide)));have n2_:=Aside0.mk (blk_grown (g:=gb2) (o:=.cells #[.int .i64 a1_0,.int .i64 a1_1,.int .i64 a1_2,.string a1_3,.bool a1_4,.bool a1_5,.bool a1_6,.int .i64 a1_7,.int .i64 a1_8,.int .i64 a1_9] 56 (0,0)) (by (with_reducible repeat (first|refine blk_drewN ?_ _|refine blk_drew ?_|refine blk_alloc ?_ _));exact BK2.out) hg (Kd.R_away HO_5.out (fun _ hk=>hk.2)));have n3_:=Aside0.mk (blk_grown (g:=gb3) (o:=.cells #[.int .i64 0,.int .i64 0,.slice none 0 0,.slice none 0 0] 45 (0,0)) (by (with_reducible repeat (first|refine blk_drewN ?_ _|refine blk_drew ?_|refine blk_alloc ?_ _));exact BK3.out) hg (Kd.R_ne HO_5.out BK3.out (by decide)));have n4_:=Aside0.mk (hb);have n5_:=Aside0.mk (Kept.of_grown (S:=(fun k_=>P0_3_ k_)) hg (by repeat (first|(with_reducible first|exact HK.out|apply Kept.alloc|apply Kept.drewN|apply Kept.drew|refine Kept.setCell ?_ (.inr GW1.out) _|refine Kept.setCell ?_ (.inr GW2.out) _|refine Kept.setCell ?_ (.inr GW3.out) _)|exact HK.out)) (fun k_ e_=>(HO_5.out.1 k_ e_).1));have n6_:=Aside0.mk (ho);clear HO_2003;clear BK1;clear BK2;clear BK3;clear HB;clear HK;clear HO_5;have HO_2003:=n0_;have BK1:=n1_;have BK2:=n2_;have BK3:=n3_;have HB:=n4_;have HK:=n5_;have HO11:=n6_;clear n0_ n1_ n2_ n3_ n4_ n5_ n6_;clear ho hb hg hat)))
       go_roundg k1
       case measure=>have:=HK1.out;omega
       case rel=>exact ⟨(y9),(wrap64 (x6_1+1)),(by first|rfl|(simp;done)|(simp [*];done)),H',⟨by have:=HK1.out;omega⟩,⟨by (with_reducible repeat (first|apply Kd.R_alloc|apply Kd.R_drewN|apply Kd.R_drew));exact HO11.out⟩,⟨by (with_reducible repeat (first|apply Kd.R_alloc|apply Kd.R_drewN|apply Kd.R_drew));exact HO_2003.out⟩,⟨by (with_reducible repeat (first|refine blk_drewN ?_ _|refine blk_drew ?_|refine blk_alloc ?_ _));exact BK1.out⟩,⟨by (with_reducible repeat (first|refine blk_drewN ?_ _|refine blk_drew ?_|refine blk_alloc ?_ _));exact BK2.out⟩,⟨by (with_reducible repeat (first|refine blk_drewN ?_ _|refine blk_drew ?_|refine blk_alloc ?_ _));exact BK3.out⟩,⟨by repeat (first|(with_reducible first|exact HK.out|apply Kept.alloc|apply Kept.drewN|apply Kept.drew|refine Kept.setCell ?_ (.inr GW1.out) _|refine Kept.setCell ?_ (.inr GW2.out) _|refine Kept.setCell ?_ (.inr GW3.out) _)|exact HK.out)⟩,⟨by repeat (first|(with_reducible first|exact HB.out|apply below_alloc|apply pw_below_drewN|apply below_drew1|refine below_set ?_ GE1.out|refine below_set ?_ GE2.out|refine below_set ?_ GE3.out)|exact HB.out)⟩⟩
      ·
       rw [if_neg c17] at H
       exact absurd H (by simp)
    ·
     rw [if_neg c8] at H
     exact absurd H (by simp)
   ·
    rw [if_neg c7] at H
    have c7b0:decide (x6_1 < (l0_2.length:Int))=false:=decide_eq_false c7
    clear c7
    simp only [Option.some.injEq,Prod.mk.injEq] at H
    obtain ⟨rfl,rfl,rfl,rfl⟩:=H
    have hnb24:=NB1_2.out
    have hnc24:=NB2_1.out
    have hnb25:=NB1_3.out
    have hnc25:=NB3_1.out
    have hcz26_0:wr.cell? ⟨gb1,0,none⟩=some (.int .i64 a0_0):=(blk_cell BK1.out 0).trans rfl
    have hcz26_1:wr.cell? ⟨gb1,1,none⟩=some (.int .i64 a0_1):=(blk_cell BK1.out 1).trans rfl
    have hcz26_2:wr.cell? ⟨gb1,2,none⟩=some (.slice A0_2 l0_2.length c0_2):=(blk_cell BK1.out 2).trans rfl
    have hcz26_3:wr.cell? ⟨gb1,3,none⟩=some (.slice Ao3 l0_3.length co3):=(blk_cell BK1.out 3).trans rfl
    have hfz26_0:=blk_frozen BK1.out 0
    have hfz26_1:=blk_frozen BK1.out 1
    have hfz26_2:=blk_frozen BK1.out 2
    have hfz26_3:=blk_frozen BK1.out 3
    obtain ⟨Ao27,co27,eo27⟩:=Kd.R_slice HO_5.out
    subst eo27
    have hnb28:=NB3_2.out
    have hnc28:=NB2_3.out
    have hcz29_0:wr.cell? ⟨gb3,0,none⟩=some (.int .i64 0):=(blk_cell BK3.out 0).trans rfl
    have hcz29_1:wr.cell? ⟨gb3,1,none⟩=some (.int .i64 0):=(blk_cell BK3.out 1).trans rfl
    have hcz29_2:wr.cell? ⟨gb3,2,none⟩=some (.slice none 0 0):=(blk_cell BK3.out 2).trans rfl
    have hcz29_3:wr.cell? ⟨gb3,3,none⟩=some (.slice none 0 0):=(blk_cell BK3.out 3).trans rfl
    have hfz29_0:=blk_frozen BK3.out 0
    have hfz29_1:=blk_frozen BK3.out 1
    have hfz29_2:=blk_frozen BK3.out 2
    have hfz29_3:=blk_frozen BK3.out 3
    go_wp2
    repeat (go_quiet (fail);try go_wp2)
    refine bodyPost_ret (results_cell_row rfl _ _ gb3 45 #[.int .i64 a0_0,.int .i64 a0_1,.slice Ao27 x5_1.length co27,.slice Ao3 l0_3.length co3] (0,0) _ rfl (by (with_reducible repeat (first|refine blk_drewN ?_ _|refine blk_drew ?_|refine blk_alloc ?_ _));refine blk_put (cs:=#[.int .i64 a0_0,.int .i64 a0_1,.slice Ao27 x5_1.length co27,.slice none 0 0]) ?_ 3 _ rfl;(with_reducible repeat (first|refine blk_drewN ?_ _|refine blk_drew ?_|refine blk_alloc ?_ _));refine blk_put (cs:=#[.int .i64 a0_0,.int .i64 a0_1,.slice none 0 0,.slice none 0 0]) ?_ 2 _ rfl;(with_reducible repeat (first|refine blk_drewN ?_ _|refine blk_drew ?_|refine blk_alloc ?_ _));refine blk_put (cs:=#[.int .i64 a0_0,.int .i64 0,.slice none 0 0,.slice none 0 0]) ?_ 1 _ rfl;(with_reducible repeat (first|refine blk_drewN ?_ _|refine blk_drew ?_|refine blk_alloc ?_ _));refine blk_put (cs:=#[.int .i64 0,.int .i64 0,.slice none 0 0,.slice none 0 0]) ?_ 0 _ rfl;(with_reducible repeat (first|refine blk_drewN ?_ _|refine blk_drew ?_|refine blk_alloc ?_ _));refine blk_far ?_ NB3_1.out _;(with_reducible repeat (first|refine blk_drewN ?_ _|refine blk_drew ?_|refine blk_alloc ?_ _));exact BK3.out) Try.underlying45 rfl (by kernel_rfl)) rfl ?_
    exact ⟨_,_,by first|rfl|(simp [errW_none,errW_some] <;> rfl)|(simp [*,errW_none,errW_some] <;> rfl),by (with_reducible repeat (first|apply Kd.R_alloc|apply Kd.R_drewN|apply Kd.R_drew));exact Kd.R_mono (Kd.R_far (p:=⟨gb3,3,none⟩) (Kd.R_far (p:=⟨gb3,2,none⟩) (Kd.R_far (p:=⟨gb3,1,none⟩) (Kd.R_far (p:=⟨gb3,0,none⟩) (Kd.R_far (p:=⟨gb1,2,none⟩) (Kd.R_types (Kd.R_types HO_5.out BK1.out (by decide)) BK3.out (by decide)) (fun _ hk=>hk.1.2) (.slice Ao27 x5_1.length co27)) (fun _ hk=>hk.2) (.int .i64 a0_0)) (fun _ hk=>hk.2) (.int .i64 a0_1)) (fun _ hk=>hk.2) (.slice Ao27 x5_1.length co27)) (fun _ hk=>hk.2) (.slice Ao3 l0_3.length co3)) (fun _ hk=>hk.1.1.1),by (with_reducible repeat (first|apply Kd.R_alloc|apply Kd.R_drewN|apply Kd.R_drew));exact Kd.R_mono (Kd.R_far (p:=⟨gb3,3,none⟩) (Kd.R_far (p:=⟨gb3,2,none⟩) (Kd.R_far (p:=⟨gb3,1,none⟩) (Kd.R_far (p:=⟨gb3,0,none⟩) (Kd.R_far (p:=⟨gb1,2,none⟩) (Kd.R_types (Kd.R_types HO_2003.out BK1.out (by decide)) BK3.out (by decide)) (fun _ hk=>hk.1.2) (.slice Ao27 x5_1.length co27)) (fun _ hk=>hk.2) (.int .i64 a0_0)) (fun _ hk=>hk.2) (.int .i64 a0_1)) (fun _ hk=>hk.2) (.slice Ao27 x5_1.length co27)) (fun _ hk=>hk.2) (.slice Ao3 l0_3.length co3)) (fun _ hk=>hk.1.1),by repeat (first|(with_reducible first|exact HB.out|apply below_alloc|apply pw_below_drewN|apply below_drew1|refine below_set ?_ GE1.out|refine below_set ?_ GE2.out|refine below_set ?_ GE3.out)|exact HB.out),by repeat (first|(with_reducible first|exact HK.out|apply Kept.alloc|apply Kept.drewN|apply Kept.drew|refine Kept.setCell ?_ (.inr GW1.out) _|refine Kept.setCell ?_ (.inr GW2.out) _|refine Kept.setCell ?_ (.inr GW3.out) _)|exact HK.out)⟩
end Go.Proofs.Ytpejjpecdkbleaa.Print
/-! #### PureW -/
/- Words for pure statements: rounds that suffice (Ev), tests, numbers, lists. -/
namespace Go.Proofs.YtpejjpecdkbleaaW.PrintWords
theorem Ev.pos {α:Type} {c:Prop} [Decidable c] {f g:Nat→Option α} {r:α} (h:c) (k:Ev f r):Ev (fun n=>if c then f n else g n) r:=by
 simpa only [if_pos h] using k
theorem Ev.neg {α:Type} {c:Prop} [Decidable c] {f g:Nat→Option α} {r:α} (h:¬ c) (k:Ev g r):Ev (fun n=>if c then f n else g n) r:=by
 simpa only [if_neg h] using k
theorem Ev.some_ {α:Type} {a r:α} (h:a=r):Ev (fun _=>some a) r:=h ▸ Ev.now a
theorem Ev.some_bind {α β:Type} {a:α} {f:Nat→α→Option β} {r:β} (k:Ev (fun n=>f n a) r):Ev (fun n=>(some a).bind (f n)) r:=k
theorem Ev.to {α:Type} {g:Nat→Option α} {r r':α} (h:Ev g r) (e:r=r'):Ev g r':=e ▸ h
/-- A call that has no rounds. -/
theorem Ev.call {α β:Type} {o:Option α} {a:α} {f:Nat→α→Option β} {r:β} (h:o=some a) (k:Ev (fun n=>f n a) r):Ev (fun n=>o.bind (f n)) r:=by
 subst h
 exact k
theorem Ev.succ {α:Type} {g:Nat→Option α} {r:α} (k:Ev (fun n=>g (n+1)) r):Ev g r:=Ev.step (fun _=>rfl) k
end Go.Proofs.YtpejjpecdkbleaaW.PrintWords
namespace Go.Proofs.Ytpejjpecdkbleaa.Pure
open Go.RowKit Go.Proofs.YtpejjpecdkbleaaW.PrintWords
set_option linter.unusedVariables false
theorem wrap_of {x:Int} (h0:-9223372036854775808≤x) (h1:x≤9223372036854775807):wrap64 x=x:=by unfold wrap64;omega
theorem wrap_succ (i:Nat) (h:i < 9223372036854775807):wrap64 ((i:Int)+1)=((i+1:Nat):Int):=by unfold wrap64;omega
theorem rd_lt (l:List Int) (i:Nat) (h:i < l.length):rd l (i:Int)=l[i]:=by simp [rd,List.getD_eq_getElem?_getD,h]
end Go.Proofs.Ytpejjpecdkbleaa.Pure
/-! #### PurePeers1 -/
/- peers: what the references come to, as plain lists. -/
namespace Go.Proofs.Ytpejjpecdkbleaa.Pure
open Go.RowKit Go.Proofs.Ytpejjpecdkbleaa.Print Go.Proofs.YtpejjpecdkbleaaW.PrintWords Go.Proofs.YtpejjpecdkbleaaW.PrintLast Go.Proofs.YtpejjpecdkbleaaW.PrintMore
set_option linter.unusedVariables false
set_option linter.unusedSimpArgs false
abbrev Rp:=S56
theorem rdp (l:List Rp) (i:Nat) (h:i < l.length):rd_T56 l (i:Int)=l[i]:=by
 unfold rd_T56
 rw [Int.toNat_natCast,List.getD_eq_getElem?_getD,List.getElem?_eq_getElem h]
 rfl
theorem drop_cons_get {α:Type} (l:List α) (i:Nat) (h:i < l.length):l.drop i=l[i] :: l.drop (i+1):=(List.drop_eq_getElem_cons h)
/-! ### Find -/
def findI:List Rp→Int→Nat→Int
 | [],_,_=>-1
 | x :: t,n,i=>if x.f0=n then (i:Int) else findI t n (i+1)
theorem find_ev (room tmo:Int) (l:List Rp) (lb:List Int) (n:Int) (hl:l.length < 1000000):∀ (d i:Nat),i+d=l.length→Ev (fun k=>mosaicref18_Table_Find.l0 k n (i:Int) room tmo l lb) (findI (l.drop i) n i)
 | 0,i,h=>by
  refine Ev.succ ?_
  simp only [mosaicref18_Table_Find.l0]
  refine Ev.neg (by omega) (Ev.some_ ?_)
  rw [List.drop_eq_nil_of_le (by omega)]
  rfl
 | d+1,i,h=>by
  have hi:i < l.length:=by omega
  refine Ev.succ ?_
  simp only [mosaicref18_Table_Find.l0]
  rw [rdp l i hi,drop_cons_get l i hi,wrap_succ i (by omega)]
  refine Ev.pos (by omega) (Ev.pos (by omega) ?_)
  unfold findI
  by_cases hn:l[i].f0=n
  ·
   rw [if_pos hn]
   exact Ev.pos hn (Ev.some_ rfl)
  ·
   rw [if_neg hn]
   exact Ev.neg hn (find_ev room tmo l lb n hl d (i+1) (by omega))
theorem find_f (room tmo:Int) (l:List Rp) (lb:List Int) (n:Int) (hl:l.length < 1000000):Ev (fun k=>mosaicref18_Table_Find.f k room tmo l lb n) (findI l n 0) :=
 find_ev room tmo l lb n hl l.length 0 (by omega)
theorem findI_none:∀ (l:List Rp) (n:Int) (i:Nat),(∀ x∈l,x.f0≠n)→findI l n i=-1
 | [],_,_,_=>rfl
 | x :: t,n,i,h=>by
  unfold findI
  rw [if_neg (h x (by simp))]
  exact findI_none t n (i+1) (fun y hy=>h y (by simp [hy]))
theorem findI_some:∀ (l:List Rp) (n:Int) (i:Nat) (x:Rp),x∈l→x.f0=n→∃ j,j < l.length∧findI l n i=((i+j:Nat):Int)∧∃ y,l[j]?=some y∧y.f0=n
 | x :: t,n,i,y,hy,hn=>by
  unfold findI
  by_cases hx:x.f0=n
  ·
   rw [if_pos hx]
   exact ⟨0,by simp,by simp,x,rfl,hx⟩
  ·
   rw [if_neg hx]
   rcases List.mem_cons.1 hy with rfl|hy
   ·
    exact absurd hn hx
   ·
    obtain ⟨j,h1,h2,z,h3,h4⟩:=findI_some t n (i+1) y hy hn
    exact ⟨j+1,by simp;omega,by rw [h2];congr 1;omega,z,by simpa using h3,h4⟩
/-! ### without, with -/
def withoutL (l:List Rp) (n:Int):List Rp:=l.filter fun x=>decide (x.f0≠n)
theorem withoutL_no {x:Rp} {t:List Rp} {n:Int} (h:x.f0=n):withoutL (x :: t) n=withoutL t n:=by
 unfold withoutL
 rw [List.filter_cons,if_neg (by simp [h])]
theorem withoutL_yes {x:Rp} {t:List Rp} {n:Int} (h:x.f0≠n):withoutL (x :: t) n=x :: withoutL t n:=by
 unfold withoutL
 rw [List.filter_cons,if_pos (by simp [h])]
theorem without_ev (room tmo:Int) (l:List Rp) (lb:List Int) (n:Int) (hl:l.length < 1000000):∀ (d i:Nat) (acc:List Rp),i+d=l.length→acc.length≤i→Ev (fun k=>mosaicref18_Table_without.l0 k n acc (i:Int) room tmo l lb) (room,tmo,acc ++ withoutL (l.drop i) n,lb)
 | 0,i,acc,h,ha=>by
  refine Ev.succ ?_
  simp only [mosaicref18_Table_without.l0]
  refine Ev.neg (by omega) (Ev.some_ ?_)
  rw [List.drop_eq_nil_of_le (by omega)]
  simp [withoutL]
 | d+1,i,acc,h,ha=>by
  have hi:i < l.length:=by omega
  refine Ev.succ ?_
  simp only [mosaicref18_Table_without.l0]
  rw [rdp l i hi,drop_cons_get l i hi,wrap_succ i (by omega)]
  refine Ev.pos (by omega) (Ev.pos (by omega) ?_)
  by_cases hn:l[i].f0=n
  ·
   refine Ev.pos hn ((without_ev room tmo l lb n hl d (i+1) acc (by omega) (by omega)).to ?_)
   rw [withoutL_no hn]
  ·
   refine Ev.neg hn (Ev.pos (by omega) ((without_ev room tmo l lb n hl d (i+1) (acc ++ [l[i]]) (by omega) (by simp;omega)).to ?_))
   rw [withoutL_yes hn,List.append_assoc]
   rfl
theorem without_f (room tmo:Int) (l:List Rp) (lb:List Int) (n:Int) (hl:l.length < 1000000):Ev (fun k=>mosaicref18_Table_without.f k room tmo l lb n) (room,tmo,withoutL l n,lb) :=
 (without_ev room tmo l lb n hl l.length 0 [] (by omega) (Nat.le_refl _)).to (by simp)
def withL (l:List Rp) (x:Rp):List Rp:=l.map fun y=>if y.f0=x.f0 then x else y
theorem withL_same {x y:Rp} {t:List Rp} (h:y.f0=x.f0):withL (y :: t) x=x :: withL t x:=by
 unfold withL
 rw [List.map_cons,if_pos h]
theorem withL_other {x y:Rp} {t:List Rp} (h:y.f0≠x.f0):withL (y :: t) x=y :: withL t x:=by
 unfold withL
 rw [List.map_cons,if_neg h]
theorem with_ev (room tmo:Int) (l:List Rp) (lb:List Int) (x:Rp) (hl:l.length < 1000000):∀ (d i:Nat) (acc:List Rp),i+d=l.length→acc.length≤i→Ev (fun k=>mosaicref18_Table_with.l0 k acc (i:Int) room tmo l lb x.f0 x.f1.f0 x.f1.f1 x.f2 x.f3 x.f4 x.f5 x.f6 x.f7 x.f8) (room,tmo,acc ++ withL (l.drop i) x,lb)
 | 0,i,acc,h,ha=>by
  refine Ev.succ ?_
  simp only [mosaicref18_Table_with.l0]
  refine Ev.neg (by omega) (Ev.some_ ?_)
  rw [List.drop_eq_nil_of_le (by omega)]
  simp [withL]
 | d+1,i,acc,h,ha=>by
  have hi:i < l.length:=by omega
  refine Ev.succ ?_
  simp only [mosaicref18_Table_with.l0]
  rw [rdp l i hi,drop_cons_get l i hi,wrap_succ i (by omega)]
  refine Ev.pos (by omega) (Ev.pos (by omega) ?_)
  by_cases hn:l[i].f0=x.f0
  ·
   refine Ev.pos hn (Ev.pos (by omega) ((with_ev room tmo l lb x hl d (i+1) (acc ++ [x]) (by omega) (by simp;omega)).to ?_))
   rw [withL_same hn,List.append_assoc]
   rfl
  ·
   refine Ev.neg hn (Ev.pos (by omega) ((with_ev room tmo l lb x hl d (i+1) (acc ++ [l[i]]) (by omega) (by simp;omega)).to ?_))
   rw [withL_other hn,List.append_assoc]
   rfl
theorem with_f (room tmo:Int) (l:List Rp) (lb:List Int) (x:Rp) (hl:l.length < 1000000):Ev (fun k=>mosaicref18_Table_with.f k room tmo l lb x.f0 x.f1.f0 x.f1.f1 x.f2 x.f3 x.f4 x.f5 x.f6 x.f7 x.f8) (room,tmo,withL l x,lb) :=
 (with_ev room tmo l lb x hl l.length 0 [] (by omega) (Nat.le_refl _)).to (by simp)
/-! ### Has, tests -/
theorem has_ev (l:List Int) (n:Int) (hl:l.length < 1000000):∀ (d i:Nat),i+d=l.length→Ev (fun k=>mosaicref09_Has.l0 k l n (i:Int)) (decide (n∈l.drop i))
 | 0,i,h=>by
  refine Ev.succ ?_
  simp only [mosaicref09_Has.l0]
  refine Ev.neg (by omega) (Ev.some_ ?_)
  rw [List.drop_eq_nil_of_le (by omega)]
  simp
 | d+1,i,h=>by
  have hi:i < l.length:=by omega
  refine Ev.succ ?_
  simp only [mosaicref09_Has.l0]
  rw [rd_lt l i hi,drop_cons_get l i hi,wrap_succ i (by omega)]
  refine Ev.pos (by omega) (Ev.pos (by omega) ?_)
  by_cases hn:l[i]=n
  ·
   exact Ev.pos hn (Ev.some_ (by rw [← hn];exact (decide_eq_true List.mem_cons_self).symm))
  ·
   refine Ev.neg hn ((has_ev l n hl d (i+1) (by omega)).to ?_)
   rw [decide_eq_decide,List.mem_cons]
   exact ⟨fun h=>.inr h,fun h=>h.resolve_left (fun e=>hn e.symm)⟩
theorem has_f (l:List Int) (n:Int) (hl:l.length < 1000000):Ev (fun k=>mosaicref09_Has.f k l n) (decide (n∈l)):=has_ev l n hl l.length 0 (by omega)
theorem isPeer_f (n:Int):mosaicref18_IsPeer.f n=some (decide (1≤n∧n≤15)):=by
 unfold mosaicref18_IsPeer.f
 by_cases h:1≤n
 ·
  rw [if_pos (show n≥1 from h)]
  simp [h]
 ·
  rw [if_neg (show ¬ n≥1 from h)]
  simp [h]
theorem rtick_f (n:Int):mosaicref18_Tick.f n=some (decide (0≤n∧n≤1099511627776)):=by
 unfold mosaicref18_Tick.f
 by_cases h:0≤n
 ·
  rw [if_pos (show n≥0 from h)]
  simp [h]
 ·
  rw [if_neg (show ¬ n≥0 from h)]
  simp [h]
theorem rcheck_f (x y:Int):mosaicref17_Check.f x y=some (decide ((-1048576≤x∧x≤1048576)∧(-1048576≤y∧y≤1048576))):=by
 unfold mosaicref17_Check.f
 by_cases h1:-1048576≤x
 ·
  rw [if_pos (show x≥-1048576 from h1)]
  by_cases h2:x≤1048576
  ·
   rw [if_pos h2]
   by_cases h3:-1048576≤y
   ·
    rw [if_pos (show y≥-1048576 from h3)]
    simp [h1,h2,h3]
   ·
    rw [if_neg (show ¬ y≥-1048576 from h3)]
    simp [h3]
  ·
   rw [if_neg h2]
   simp [h2]
 ·
  rw [if_neg (show ¬ x≥-1048576 from h1)]
  simp [h1]
/-! ### Leave -/
def leaveR (l:List Rp) (n:Int):List Rp×Int:=if findI l n 0 < 0 then (l,4) else (withoutL l n,0)
theorem leave_f (room tmo:Int) (l:List Rp) (lb:List Int) (n:Int) (hl:l.length < 1000000):Ev (fun k=>mosaicref18_Table_Leave.f k room tmo l lb n) (room,tmo,(leaveR l n).1,lb,(leaveR l n).2):=by
 unfold mosaicref18_Table_Leave.f leaveR
 refine Ev.bind (find_f room tmo l lb n hl) ?_
 by_cases h:findI l n 0 < 0
 ·
  rw [if_pos h]
  exact Ev.pos h (Ev.some_ rfl)
 ·
  rw [if_neg h]
  exact Ev.neg h (Ev.bind (without_f room tmo l lb n hl) (Ev.some_ rfl))
end Go.Proofs.Ytpejjpecdkbleaa.Pure
