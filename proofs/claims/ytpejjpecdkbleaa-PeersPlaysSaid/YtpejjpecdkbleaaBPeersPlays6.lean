/- The proof of the statement PeersPlays of the seat, part 6 of 6: the functions that it reaches, as plain functions, with the walks that show it, and what they come to; the last part ends in the row. No condition beyond the statement's own. -/
import Derived.IntWalk
import Derived.BigQuiet
import Derived.Deep.QuietTactic
import Derived.Deep.RegionLaw
import Derived.RegionTactic
import Derived.StillTailTactics
import Derived.Deep.RegionHeld3
import Derived.Deep.DeepCutAuto
import Derived.Outline
import Derived.Laws.CopyOwn
import Derived.Test.YtpejjpecdkbleaaRows
import Derived.WalkKit
import Derived.ProofKit
import Derived.OpenShut
import Derived.ShutString
import Derived.ChangeOld
import Derived.Below
import Derived.SizedLaws
import Derived.Carry
import Derived.Test.YtpejjpecdkbleaaBPeersPlays1
import Derived.Test.YtpejjpecdkbleaaBPeersPlays2
import Derived.Test.YtpejjpecdkbleaaBPeersPlays3
import Derived.Test.YtpejjpecdkbleaaBPeersPlays5
/-! #### MaPeers19 -/
/- peers: acts on both tables: do, kinds 0 and 4. -/
namespace Go.Proofs.Ytpejjpecdkbleaa.Print
open Go.RowKit Go.Proofs.YtpejjpecdkbleaaW.PrintWords Go.Proofs.YtpejjpecdkbleaaW.PrintLast Go.Proofs.YtpejjpecdkbleaaW.PrintMore
open Go.Proofs.Ytpejjpecdkbleaa.Pure (withoutL findI insG metR meetR lateR expR setR leaveR leave_f rollR roll_f same_f)
set_option linter.unusedVariables false
set_option linter.unusedSimpArgs false
section
variable {w W W0 W2 W3:World} {VL VB:Value} {l:List Rf} {lb:List Int} {room tmo x y n now kind node num:Int} {s:ByteArray} {on:Bool} {g:Nat} {m:PM} {bs:List Bool}
theorem ref_expire2 (r:RT w W VL VB l lb) (hb:Below w.heap.size w W) (room tmo now:Int) (hl:l.length < 1000000) (hs:∀ x∈l,0≤x.f6∧x.f6≤1099511627776) :
  Calls Try.prog 56 #[.agg #[.int .i64 room,.int .i64 tmo,VL,VB],.int .i64 now] W fun e W2=>∃ V2 V3,e=.returned (.agg #[.int .i64 room,.int .i64 tmo,V2,V3])∧RefDid w W W2 V2 V3 (expR tmo l now) lb∧Kd.R k56 56 W2 w.heap.size (fun _=>True) VL l:=by
 refine (r.Expire_calls hb room tmo now hl hs).mono ?_
 rintro e W2 ⟨v2,v3,rfl,h2,h3,h4⟩
 exact ⟨v2,v3,rfl,⟨h2,h3.mono (fun k hk=>.inr (r.ownTy k hk)),h4⟩,r.keptL h3⟩
theorem ref17 (x y:Int) (W:World):Calls Try.prog 38 #[.agg #[.int .i64 x,.int .i64 y]] W fun e W2=>e=.returned (.agg #[.int .i64 x,.int .i64 y])∧Below W.heap.size W W2:=mosaiclaw17_Ref.calls x y x y W rfl
theorem same_calls {A1 A2:Option Addr} {n1 n2 c1 c2 b1 b2:Nat} {ok1 ok2:Nat→Prop} {a b:List Int} (h1:Kd.R (Kd.int .i64) 3 W b1 ok1 (.slice A1 n1 c1) a) (h2:Kd.R (Kd.int .i64) 3 W b2 ok2 (.slice A2 n2 c2) b) (hl:a.length < 1000000) :
  Calls Try.prog 41 #[.slice A1 n1 c1,.slice A2 n2 c2] W fun e W2=>e=.returned (.bool (decide (a=b)))∧Below W.heap.size W W2:=by
 obtain ⟨rfl,hc1,hC1⟩:=Kd.R_reads' h1
 obtain ⟨rfl,hc2,hC2⟩:=Kd.R_reads' h2
 obtain ⟨k,hk⟩:=(same_f a b hl).rounds
 refine (mosaicref04_Same.calls k A1 c1 a A2 c2 b _ W hC1 hc1 hC2 hc2 hk).mono ?_
 rintro e W2 ⟨rfl,hd⟩
 exact ⟨rfl,hd.below⟩
set_option maxHeartbeats 3200000 in
set_option maxRecDepth 100000 in
theorem do4_calls {room0 tmo0:Int} (t:PT w W g room0 tmo0 m bs) (r:RT w W VL VB l lb) (hl:l.length < 1000000) (hlb:lb.length < 1000000) (hs:∀ x∈l,0≤x.f6∧x.f6≤1099511627776) {vT vR:List Int} {mT:PM} {l':List Rf} (hV:(if tickB num=true then goneM num tmo0 m 16 else [])=vT) (hvR:lateR tmo l num=vR) (hM:(if tickB num=true then m.map (expM num tmo0) else m)=mT) (hl':expR tmo l num=l') (hvl:vT.length < 1000000) :
  Calls Try.prog 20 #[.pointer (some ⟨g,0,none⟩),.agg #[.int .i64 room,.int .i64 tmo,VL,VB],.agg #[.int .i64 4,.int .i64 node,.int .i64 num,.int .i64 x,.int .i64 y,.string s,.bool on]] W fun e W2=>∃ V2 V3,e=.returned (.tuple #[.agg #[.int .i64 room,.int .i64 tmo,V2,V3],.bool (decide (vT=vR))])∧PT w W2 g room0 tmo0 mT bs∧RT w W2 V2 V3 l' lb∧Kept W W2 (TyS W):=by
 obtain ⟨A1,c1,rfl⟩:=r.sl
 obtain ⟨A2,c2,rfl⟩:=r.sb
 have HT:=Aside0.mk (t.below (below3 W (.cells #[.int .i64 room,.int .i64 tmo,.slice A1 l.length c1,.slice A2 lb.length c2] 45) (.cells #[.int .i64 4,.int .i64 node,.int .i64 num,.int .i64 x,.int .i64 y,.string s,.bool on] 42) (.cells #[.int .i64 0,.int .i64 0,.slice none 0 0,.slice none 0 0] 45)))
 have HR:=Aside0.mk (r.below (below3 W (.cells #[.int .i64 room,.int .i64 tmo,.slice A1 l.length c1,.slice A2 lb.length c2] 45) (.cells #[.int .i64 4,.int .i64 node,.int .i64 num,.int .i64 x,.int .i64 y,.string s,.bool on] 42) (.cells #[.int .i64 0,.int .i64 0,.slice none 0 0,.slice none 0 0] 45)))
 have HD:=Aside0.mk (DLoc.start W room tmo (.slice A1 l.length c1) (.slice A2 lb.length c2) 4 node num x y s on)
 have HWS:=Aside0.mk (show w.heap.size≤W.heap.size from t.bel.size)
 have HLL:=Aside0.mk (And.intro hl hlb)
 have HLR:=Aside0.mk hl'
 have HVR:=Aside0.mk hvR
 have HV:=Aside0.mk hV
 have HM:=Aside0.mk hM
 have HS:=Aside0.mk hs
 have HVL:=Aside0.mk hvl
 clear t r hl hlb hl' hvR hV hM hs hvl
 go_enter Try.func20,Try.ntmps20
 go_wp2_with fail
 obtain ⟨w1,hw1⟩:∃ w1,w1=(((W.alloc (.cells #[.int .i64 room,.int .i64 tmo,.slice A1 l.length c1,.slice A2 lb.length c2] 45)).alloc (.cells #[.int .i64 4,.int .i64 node,.int .i64 num,.int .i64 x,.int .i64 y,.string s,.bool on] 42)).alloc (.cells #[.int .i64 0,.int .i64 0,.slice none 0 0,.slice none 0 0] 45)):=⟨_,rfl⟩
 rw [← hw1] at HT HR HD ⊢
 clear hw1
 have k0:=(show w1.cell? ⟨W.heap.size,0,none⟩=some (.int .i64 room) from blk_cell HD.out.b4 0)
 have k1:=(show w1.cell? ⟨W.heap.size,1,none⟩=some (.int .i64 tmo) from blk_cell HD.out.b4 1)
 have k2:=(show w1.cell? ⟨W.heap.size,2,none⟩=some (.slice A1 l.length c1) from blk_cell HD.out.b4 2)
 have k3:=(show w1.cell? ⟨W.heap.size,3,none⟩=some (.slice A2 lb.length c2) from blk_cell HD.out.b4 3)
 have a2:=(show w1.cell? ⟨W.heap.size+1,2,none⟩=some (.int .i64 num) from blk_cell HD.out.b5 2)
 have hn6:¬ W.heap.size=W.heap.size+1+1:=by omega
 have hn7:¬ W.heap.size+1+1=W.heap.size:=by omega
 go_region_held3 (fun w'=>w'.cell? ⟨W.heap.size,0,none⟩=some (.int .i64 room)∧w'.cell? ⟨W.heap.size,1,none⟩=some (.int .i64 tmo)∧w'.cell? ⟨W.heap.size,2,none⟩=some (.slice A1 l.length c1)∧w'.cell? ⟨W.heap.size,3,none⟩=some (.slice A2 lb.length c2)∧w'.cell? ⟨W.heap.size+1,2,none⟩=some (.int .i64 num)) (go_keep)
  (first
   | (go_at_call 56;refine (ref_expire2 (HR.out.below (by repeat (first|(with_reducible first|exact Below.refl _ _|apply below_alloc|apply pw_below_drewN|apply below_drew1)|exact Below.refl _ _))) (below_step HT.out.bel (by repeat (first|(with_reducible first|exact Below.refl _ _|apply below_alloc|apply pw_below_drewN|apply below_drew1)|exact Below.refl _ _))) room tmo num HLL.out.1 HS.out).mono ?_;rintro e w3 ⟨V2,V3,he,rd,hv3⟩;subst he;rw [HLR.out] at rd;obtain ⟨A3,c3,hA3⟩:=rd.rt.sl;subst hA3;obtain ⟨A4,c4,hA4⟩:=rd.rt.sb;subst hA4;have HT3:=Aside0.mk ((HT.out.below (by repeat (first|(with_reducible first|exact Below.refl _ _|apply below_alloc|apply pw_below_drewN|apply below_drew1)|exact Below.refl _ _))).refd rd.kept rd.bel);have HR3:=Aside0.mk rd.rt;have HD3:=Aside0.mk ((HD.out.below (by repeat (first|(with_reducible first|exact Below.refl _ _|apply below_alloc|apply pw_below_drewN|apply below_drew1)|exact Below.refl _ _))).ref rd.kept);have HL3:=Aside0.mk hv3;clear rd hv3 k0 k1 k2 k3 a2;have k0:=(show w3.cell? ⟨W.heap.size,0,none⟩=some (.int .i64 room) from blk_cell HD3.out.b4 0);have k1:=(show w3.cell? ⟨W.heap.size,1,none⟩=some (.int .i64 tmo) from blk_cell HD3.out.b4 1);have k2:=(show w3.cell? ⟨W.heap.size,2,none⟩=some (.slice A1 l.length c1) from blk_cell HD3.out.b4 2);have k3:=(show w3.cell? ⟨W.heap.size,3,none⟩=some (.slice A2 lb.length c2) from blk_cell HD3.out.b4 3);have a2:=(show w3.cell? ⟨W.heap.size+1,2,none⟩=some (.int .i64 num) from blk_cell HD3.out.b5 2))
   | (go_at_call 18;refine ((HT3.out.below (by repeat (first|(with_reducible first|exact Below.refl _ _|apply below_alloc|apply pw_below_drewN|apply below_drew1)|exact Below.refl _ _))).Expire_any num).mono ?_;rintro e w4 ⟨v,he,hv,d⟩;subst he;rw [HV.out] at hv;rw [HM.out] at d;obtain ⟨A5,c5,hv5⟩:=Kd.R_slice hv;subst hv5;have HT4:=Aside0.mk d.pt;have HR4:=Aside0.mk ((HR3.out.below (by repeat (first|(with_reducible first|exact Below.refl _ _|apply below_alloc|apply pw_below_drewN|apply below_drew1)|exact Below.refl _ _))).foot d.kept);have HD4:=Aside0.mk ((HD3.out.below (by repeat (first|(with_reducible first|exact Below.refl _ _|apply below_alloc|apply pw_below_drewN|apply below_drew1)|exact Below.refl _ _))).foot d.kept);have HL4:=Aside0.mk (rows_foot (Kd.R_below HL3.out (by repeat (first|(with_reducible first|exact Below.refl _ _|apply below_alloc|apply pw_below_drewN|apply below_drew1)|exact Below.refl _ _))) d.kept (by decide));have HV4:=Aside0.mk hv;clear hv d k0 k1 k2 k3 a2;have k0:=(show w4.cell? ⟨W.heap.size,0,none⟩=some (.int .i64 room) from blk_cell HD4.out.b4 0);have k1:=(show w4.cell? ⟨W.heap.size,1,none⟩=some (.int .i64 tmo) from blk_cell HD4.out.b4 1);have k2:=(show w4.cell? ⟨W.heap.size,2,none⟩=some (.slice A1 l.length c1) from blk_cell HD4.out.b4 2);have k3:=(show w4.cell? ⟨W.heap.size,3,none⟩=some (.slice A2 lb.length c2) from blk_cell HD4.out.b4 3);have a2:=(show w4.cell? ⟨W.heap.size+1,2,none⟩=some (.int .i64 num) from blk_cell HD4.out.b5 2))
   | (go_at_call 57;refine (late_calls (Kd.R_below HL4.out (by repeat (first|(with_reducible first|exact Below.refl _ _|apply below_alloc|apply pw_below_drewN|apply below_drew1)|exact Below.refl _ _))) A2 lb.length c2 num HLL.out.1 HS.out).mono ?_;rintro e w5 ⟨v2,he,hv2,hb5⟩;subst he;rw [HVR.out] at hv2;obtain ⟨A6,c6,hv6⟩:=Kd.R_slice hv2;subst hv6;have hb45:=(below_step (by repeat (first|(with_reducible first|exact Below.refl _ _|apply below_alloc|apply pw_below_drewN|apply below_drew1)|exact Below.refl _ _)) hb5:Below w4.heap.size w4 w5);have HT5:=Aside0.mk (HT4.out.below hb45);have HR5:=Aside0.mk (HR4.out.below hb45);have HD5:=Aside0.mk (HD4.out.below hb45);have HV5:=Aside0.mk (Kd.R_below HV4.out hb45);have HW5:=Aside0.mk hv2;clear hv2 hb5 hb45 k0 k1 k2 k3 a2;have k0:=(show w5.cell? ⟨W.heap.size,0,none⟩=some (.int .i64 room) from blk_cell HD5.out.b4 0);have k1:=(show w5.cell? ⟨W.heap.size,1,none⟩=some (.int .i64 tmo) from blk_cell HD5.out.b4 1);have k2:=(show w5.cell? ⟨W.heap.size,2,none⟩=some (.slice A1 l.length c1) from blk_cell HD5.out.b4 2);have k3:=(show w5.cell? ⟨W.heap.size,3,none⟩=some (.slice A2 lb.length c2) from blk_cell HD5.out.b4 3);have a2:=(show w5.cell? ⟨W.heap.size+1,2,none⟩=some (.int .i64 num) from blk_cell HD5.out.b5 2))
   | (go_at_call 41;refine (same_calls (Kd.R_below HV5.out (by repeat (first|(with_reducible first|exact Below.refl _ _|apply below_alloc|apply pw_below_drewN|apply below_drew1)|exact Below.refl _ _))) (Kd.R_below HW5.out (by repeat (first|(with_reducible first|exact Below.refl _ _|apply below_alloc|apply pw_below_drewN|apply below_drew1)|exact Below.refl _ _))) HVL.out).mono ?_;rintro e w6 ⟨he,hb6⟩;subst he;have hb56:=(below_step (by repeat (first|(with_reducible first|exact Below.refl _ _|apply below_alloc|apply pw_below_drewN|apply below_drew1)|exact Below.refl _ _)) hb6:Below w5.heap.size w5 w6);have HT6:=Aside0.mk (HT5.out.below hb56);have HR6:=Aside0.mk (HR5.out.below hb56);have HD6:=Aside0.mk (HD5.out.below hb56);clear hb6 hb56 k0 k1 k2 k3 a2;have k0:=(show w6.cell? ⟨W.heap.size,0,none⟩=some (.int .i64 room) from blk_cell HD6.out.b4 0);have k1:=(show w6.cell? ⟨W.heap.size,1,none⟩=some (.int .i64 tmo) from blk_cell HD6.out.b4 1);have k2:=(show w6.cell? ⟨W.heap.size,2,none⟩=some (.slice A1 l.length c1) from blk_cell HD6.out.b4 2);have k3:=(show w6.cell? ⟨W.heap.size,3,none⟩=some (.slice A2 lb.length c2) from blk_cell HD6.out.b4 3);have a2:=(show w6.cell? ⟨W.heap.size+1,2,none⟩=some (.int .i64 num) from blk_cell HD6.out.b5 2);have s0:=(show w6.cell? ⟨W.heap.size+1+1,0,none⟩=some (.int .i64 0) from blk_cell HD6.out.b6 0);have z0:=(show w6.frozen? ⟨W.heap.size+1+1,0,none⟩=false from blk_frozen HD6.out.b6 0);have s1:=(show w6.cell? ⟨W.heap.size+1+1,1,none⟩=some (.int .i64 0) from blk_cell HD6.out.b6 1);have z1:=(show w6.frozen? ⟨W.heap.size+1+1,1,none⟩=false from blk_frozen HD6.out.b6 1);have s2:=(show w6.cell? ⟨W.heap.size+1+1,2,none⟩=some (.slice none 0 0) from blk_cell HD6.out.b6 2);have z2:=(show w6.frozen? ⟨W.heap.size+1+1,2,none⟩=false from blk_frozen HD6.out.b6 2);have s3:=(show w6.cell? ⟨W.heap.size+1+1,3,none⟩=some (.slice none 0 0) from blk_cell HD6.out.b6 3);have z3:=(show w6.frozen? ⟨W.heap.size+1+1,3,none⟩=false from blk_frozen HD6.out.b6 3)))
 all_goals
  (try go_wp2_with fail)
  have hs4:=set4 (b:=W.heap.size+1+1) HD6.out.b6 (.int .i64 room) (.int .i64 tmo) (.slice A3 l'.length c3) (.slice A4 lb.length c4)
  refine bodyPost_ret (v:=.tuple #[.agg #[.int .i64 room,.int .i64 tmo,.slice A3 l'.length c3,.slice A4 lb.length c4],.bool (decide (vT=vR))]) (results_list (rs:=[.cell 6 45,.tmp 7]) rfl (by simp) (.cell (W.heap.size+2) 45 _ (0,0) _ rfl hs4.1 Try.underlying45 rfl info45z (.tmp .nil))) rfl ?_
  have hge:w.heap.size≤W.heap.size+2:=Nat.le_trans HWS.out (Nat.le_add_right _ _)
  exact ⟨_,_,rfl,HT6.out.keepB HD6.out.b6 (by decide) (by decide) hs4.2 ((((HT6.out.bel.setCell hge _).setCell hge _).setCell hge _).setCell hge _),HR6.out.keep45 HD6.out.b6 hs4.2,HD6.out.kp.of_keep hs4.2 (.inr (by omega))⟩
set_option maxHeartbeats 3200000 in
set_option maxRecDepth 100000 in
theorem do0_calls {room0 tmo0:Int} (t:PT w W g room0 tmo0 m bs) (r:RT w W VL VB l lb) (hl:l.length < 1000000) (hlb:lb.length < 1000000) {cT cR:Int} {mT:PM} {l':List Rf} (hC:meetC room0 m bs node x y num=cT) (hcR:(meetR room l lb node x y num).2=cR) (hM:meetM room0 m bs node x y num=mT) (hl':(meetR room l lb node x y num).1=l') :
  Calls Try.prog 20 #[.pointer (some ⟨g,0,none⟩),.agg #[.int .i64 room,.int .i64 tmo,VL,VB],.agg #[.int .i64 0,.int .i64 node,.int .i64 num,.int .i64 x,.int .i64 y,.string s,.bool on]] W fun e W2=>∃ V2 V3,e=.returned (.tuple #[.agg #[.int .i64 room,.int .i64 tmo,V2,V3],.bool (decide (cT=cR))])∧PT w W2 g room0 tmo0 mT bs∧RT w W2 V2 V3 l' lb∧Kept W W2 (TyS W):=by
 obtain ⟨A1,c1,rfl⟩:=r.sl
 obtain ⟨A2,c2,rfl⟩:=r.sb
 have HT:=Aside0.mk (t.below (below3 W (.cells #[.int .i64 room,.int .i64 tmo,.slice A1 l.length c1,.slice A2 lb.length c2] 45) (.cells #[.int .i64 0,.int .i64 node,.int .i64 num,.int .i64 x,.int .i64 y,.string s,.bool on] 42) (.cells #[.int .i64 0,.int .i64 0,.slice none 0 0,.slice none 0 0] 45)))
 have HR:=Aside0.mk (r.below (below3 W (.cells #[.int .i64 room,.int .i64 tmo,.slice A1 l.length c1,.slice A2 lb.length c2] 45) (.cells #[.int .i64 0,.int .i64 node,.int .i64 num,.int .i64 x,.int .i64 y,.string s,.bool on] 42) (.cells #[.int .i64 0,.int .i64 0,.slice none 0 0,.slice none 0 0] 45)))
 have HD:=Aside0.mk (DLoc.start W room tmo (.slice A1 l.length c1) (.slice A2 lb.length c2) 0 node num x y s on)
 have HWS:=Aside0.mk (show w.heap.size≤W.heap.size from t.bel.size)
 have HLL:=Aside0.mk (And.intro hl hlb)
 have HLR:=Aside0.mk hl'
 have HCR:=Aside0.mk hcR
 have HC:=Aside0.mk hC
 have HM:=Aside0.mk hM
 clear t r hl hlb hl' hcR hC hM
 go_enter Try.func20,Try.ntmps20
 go_wp2_with fail
 obtain ⟨w1,hw1⟩:∃ w1,w1=(((W.alloc (.cells #[.int .i64 room,.int .i64 tmo,.slice A1 l.length c1,.slice A2 lb.length c2] 45)).alloc (.cells #[.int .i64 0,.int .i64 node,.int .i64 num,.int .i64 x,.int .i64 y,.string s,.bool on] 42)).alloc (.cells #[.int .i64 0,.int .i64 0,.slice none 0 0,.slice none 0 0] 45)):=⟨_,rfl⟩
 rw [← hw1] at HT HR HD ⊢
 clear hw1
 go_cut [8,9] from 18 to 29 (fun v12 v13 wc=>∃ (g8:Nat) (A3:Option Addr) (c3:Nat) (A4:Option Addr) (c4:Nat),v12=.pointer (some ⟨g8,0,none⟩)∧v13=.int .i64 cR∧¬ g8=W.heap.size+1+1∧¬ W.heap.size+1+1=g8∧Aside0 (PT w wc g room0 tmo0 m bs)∧Aside0 (RT w wc (.slice A3 l'.length c3) (.slice A4 lb.length c4) l' lb)∧Aside0 (DLoc W wc room tmo (.slice A1 l.length c1) (.slice A2 lb.length c2) 0 node num x y s on)∧Aside0 (wc.heap[g8]?=some (.cells #[.int .i64 room,.int .i64 tmo,.slice A3 l'.length c3,.slice A4 lb.length c4] 45 (0,0))))
 case first =>
  have k0:=(show w1.cell? ⟨W.heap.size,0,none⟩=some (.int .i64 room) from blk_cell HD.out.b4 0)
  have k1:=(show w1.cell? ⟨W.heap.size,1,none⟩=some (.int .i64 tmo) from blk_cell HD.out.b4 1)
  have k2:=(show w1.cell? ⟨W.heap.size,2,none⟩=some (.slice A1 l.length c1) from blk_cell HD.out.b4 2)
  have k3:=(show w1.cell? ⟨W.heap.size,3,none⟩=some (.slice A2 lb.length c2) from blk_cell HD.out.b4 3)
  have a1:=(show w1.cell? ⟨W.heap.size+1,1,none⟩=some (.int .i64 node) from blk_cell HD.out.b5 1)
  have a2:=(show w1.cell? ⟨W.heap.size+1,2,none⟩=some (.int .i64 num) from blk_cell HD.out.b5 2)
  have a3:=(show w1.cell? ⟨W.heap.size+1,3,none⟩=some (.int .i64 x) from blk_cell HD.out.b5 3)
  have a4:=(show w1.cell? ⟨W.heap.size+1,4,none⟩=some (.int .i64 y) from blk_cell HD.out.b5 4)
  have hg6:W.heap.size+2 < w1.heap.size:=blk_lt HD.out.b6
  have m0_:¬ W.heap.size=w1.heap.size:=by omega
  have n0_:¬ w1.heap.size=W.heap.size:=by omega
  have m1_:¬ W.heap.size+1=w1.heap.size:=by omega
  have n1_:¬ w1.heap.size=W.heap.size+1:=by omega
  go_region_held3 (fun w'=>w'.cell? ⟨W.heap.size,0,none⟩=some (.int .i64 room)∧w'.cell? ⟨W.heap.size,1,none⟩=some (.int .i64 tmo)∧w'.cell? ⟨W.heap.size,2,none⟩=some (.slice A1 l.length c1)∧w'.cell? ⟨W.heap.size,3,none⟩=some (.slice A2 lb.length c2)∧w'.cell? ⟨W.heap.size+1,1,none⟩=some (.int .i64 node)∧w'.cell? ⟨W.heap.size+1,2,none⟩=some (.int .i64 num)∧w'.cell? ⟨W.heap.size+1,3,none⟩=some (.int .i64 x)∧w'.cell? ⟨W.heap.size+1,4,none⟩=some (.int .i64 y)) (go_keep)
   (first
    | (go_at_call 38;refine (ref17 x y _).mono ?_;rintro e w2 ⟨he,hb2⟩;subst he;have HB2:=Aside0.mk (below_step (by repeat (first|(with_reducible first|exact Below.refl _ _|apply below_alloc|apply pw_below_drewN|apply below_drew1)|exact Below.refl _ _)) hb2:Below w1.heap.size w1 w2);have HD2:=Aside0.mk (HD.out.below HB2.out);have hz:=blk_below (g:=w1.heap.size) (o:=.cells #[.int .i64 0,.int .i64 0,.slice none 0 0,.slice none 0 0] 45 (0,0)) (by first|exact heap_alloc_new _ _|exact blk_drew (heap_alloc_new _ _)|exact blk_drewN (heap_alloc_new _ _) _) hb2;have HZ2:=Aside0.mk hz;clear hz;clear k0 k1 k2 k3 a1 a2 a3 a4;have k0:=(show w2.cell? ⟨W.heap.size,0,none⟩=some (.int .i64 room) from blk_cell HD2.out.b4 0);have k1:=(show w2.cell? ⟨W.heap.size,1,none⟩=some (.int .i64 tmo) from blk_cell HD2.out.b4 1);have k2:=(show w2.cell? ⟨W.heap.size,2,none⟩=some (.slice A1 l.length c1) from blk_cell HD2.out.b4 2);have k3:=(show w2.cell? ⟨W.heap.size,3,none⟩=some (.slice A2 lb.length c2) from blk_cell HD2.out.b4 3);have a1:=(show w2.cell? ⟨W.heap.size+1,1,none⟩=some (.int .i64 node) from blk_cell HD2.out.b5 1);have a2:=(show w2.cell? ⟨W.heap.size+1,2,none⟩=some (.int .i64 num) from blk_cell HD2.out.b5 2);have a3:=(show w2.cell? ⟨W.heap.size+1,3,none⟩=some (.int .i64 x) from blk_cell HD2.out.b5 3);have a4:=(show w2.cell? ⟨W.heap.size+1,4,none⟩=some (.int .i64 y) from blk_cell HD2.out.b5 4);have hg7:=(show W.heap.size+2 < w2.heap.size from blk_lt HD2.out.b6);have m4_:=(show ¬ W.heap.size=w2.heap.size by omega);have n4_:=(show ¬ w2.heap.size=W.heap.size by omega);have m5_:=(show ¬ W.heap.size+1=w2.heap.size by omega);have n5_:=(show ¬ w2.heap.size=W.heap.size+1 by omega))
    | (go_at_call 38;refine (ref17 x y _).mono ?_;rintro e w2 ⟨he,hb2⟩;subst he;have HB2:=Aside0.mk (below_step (by repeat (first|(with_reducible first|exact Below.refl _ _|apply below_alloc|apply pw_below_drewN|apply below_drew1)|exact Below.refl _ _)) hb2:Below w1.heap.size w1 w2);have HD2:=Aside0.mk (HD.out.below HB2.out);clear hb2;clear k0 k1 k2 k3 a1 a2 a3 a4;have k0:=(show w2.cell? ⟨W.heap.size,0,none⟩=some (.int .i64 room) from blk_cell HD2.out.b4 0);have k1:=(show w2.cell? ⟨W.heap.size,1,none⟩=some (.int .i64 tmo) from blk_cell HD2.out.b4 1);have k2:=(show w2.cell? ⟨W.heap.size,2,none⟩=some (.slice A1 l.length c1) from blk_cell HD2.out.b4 2);have k3:=(show w2.cell? ⟨W.heap.size,3,none⟩=some (.slice A2 lb.length c2) from blk_cell HD2.out.b4 3);have a1:=(show w2.cell? ⟨W.heap.size+1,1,none⟩=some (.int .i64 node) from blk_cell HD2.out.b5 1);have a2:=(show w2.cell? ⟨W.heap.size+1,2,none⟩=some (.int .i64 num) from blk_cell HD2.out.b5 2);have a3:=(show w2.cell? ⟨W.heap.size+1,3,none⟩=some (.int .i64 x) from blk_cell HD2.out.b5 3);have a4:=(show w2.cell? ⟨W.heap.size+1,4,none⟩=some (.int .i64 y) from blk_cell HD2.out.b5 4);have hg7:=(show W.heap.size+2 < w2.heap.size from blk_lt HD2.out.b6);have m4_:=(show ¬ W.heap.size=w2.heap.size by omega);have n4_:=(show ¬ w2.heap.size=W.heap.size by omega);have m5_:=(show ¬ W.heap.size+1=w2.heap.size by omega);have n5_:=(show ¬ w2.heap.size=W.heap.size+1 by omega))
    | (go_at_call 53;refine (ref_meet (HR.out.below (by repeat (first|(with_reducible first|exact Below.refl _ _|exact HB3.out|exact HB2.out|apply below_alloc|apply pw_below_drewN|apply below_drew1)|exact Below.refl _ _))) (below_step HT.out.bel (by repeat (first|(with_reducible first|exact Below.refl _ _|exact HB3.out|exact HB2.out|apply below_alloc|apply pw_below_drewN|apply below_drew1)|exact Below.refl _ _))) room tmo node x y num HLL.out.1 HLL.out.2).mono ?_;rintro e w3 ⟨V2,V3,he,rd⟩;rw [HLR.out] at rd;rw [HCR.out] at he;subst he;have hz:=rd.blk (b:=w1.heap.size) (t:=45) (cells:=#[.int .i64 0,.int .i64 0,.slice none 0 0,.slice none 0 0]) (blk_below HZ2.out (by repeat (first|(with_reducible first|exact Below.refl _ _|apply below_alloc|apply pw_below_drewN|apply below_drew1)|exact Below.refl _ _))) (by decide) (by decide);obtain ⟨A3,c3,hA3⟩:=rd.rt.sl;subst hA3;obtain ⟨A4,c4,hA4⟩:=rd.rt.sb;subst hA4;have HT3:=Aside0.mk ((HT.out.below (by repeat (first|(with_reducible first|exact Below.refl _ _|exact HB3.out|exact HB2.out|apply below_alloc|apply pw_below_drewN|apply below_drew1)|exact Below.refl _ _))).refd rd.kept rd.bel);have HR3:=Aside0.mk rd.rt;have HD3:=Aside0.mk ((HD.out.below (by repeat (first|(with_reducible first|exact Below.refl _ _|exact HB3.out|exact HB2.out|apply below_alloc|apply pw_below_drewN|apply below_drew1)|exact Below.refl _ _))).ref rd.kept);clear rd k0 k1 k2 k3 a1 a2 a3 a4;have k0:=(show w3.cell? ⟨W.heap.size,0,none⟩=some (.int .i64 room) from blk_cell HD3.out.b4 0);have k1:=(show w3.cell? ⟨W.heap.size,1,none⟩=some (.int .i64 tmo) from blk_cell HD3.out.b4 1);have k2:=(show w3.cell? ⟨W.heap.size,2,none⟩=some (.slice A1 l.length c1) from blk_cell HD3.out.b4 2);have k3:=(show w3.cell? ⟨W.heap.size,3,none⟩=some (.slice A2 lb.length c2) from blk_cell HD3.out.b4 3);have a1:=(show w3.cell? ⟨W.heap.size+1,1,none⟩=some (.int .i64 node) from blk_cell HD3.out.b5 1);have a2:=(show w3.cell? ⟨W.heap.size+1,2,none⟩=some (.int .i64 num) from blk_cell HD3.out.b5 2);have a3:=(show w3.cell? ⟨W.heap.size+1,3,none⟩=some (.int .i64 x) from blk_cell HD3.out.b5 3);have a4:=(show w3.cell? ⟨W.heap.size+1,4,none⟩=some (.int .i64 y) from blk_cell HD3.out.b5 4);have hg7:=(show W.heap.size+2 < w3.heap.size from blk_lt HD3.out.b6);have m2_:=(show ¬ W.heap.size=w3.heap.size by omega);have n2_:=(show ¬ w3.heap.size=W.heap.size by omega);have m3_:=(show ¬ W.heap.size+1=w3.heap.size by omega);have n3_:=(show ¬ w3.heap.size=W.heap.size+1 by omega);have u0:=(show w3.cell? ⟨w1.heap.size,0,none⟩=some (.int .i64 0) from blk_cell hz 0);have uz0:=(show w3.frozen? ⟨w1.heap.size,0,none⟩=false from blk_frozen hz 0);have u1:=(show w3.cell? ⟨w1.heap.size,1,none⟩=some (.int .i64 0) from blk_cell hz 1);have uz1:=(show w3.frozen? ⟨w1.heap.size,1,none⟩=false from blk_frozen hz 1);have u2:=(show w3.cell? ⟨w1.heap.size,2,none⟩=some (.slice none 0 0) from blk_cell hz 2);have uz2:=(show w3.frozen? ⟨w1.heap.size,2,none⟩=false from blk_frozen hz 2);have u3:=(show w3.cell? ⟨w1.heap.size,3,none⟩=some (.slice none 0 0) from blk_cell hz 3);have uz3:=(show w3.frozen? ⟨w1.heap.size,3,none⟩=false from blk_frozen hz 3);have HZ:=Aside0.mk hz;clear hz)
    | (go_at_call 53;refine (ref_meet (HR.out.below (by repeat (first|(with_reducible first|exact Below.refl _ _|exact HB3.out|exact HB2.out|apply below_alloc|apply pw_below_drewN|apply below_drew1)|exact Below.refl _ _))) (below_step HT.out.bel (by repeat (first|(with_reducible first|exact Below.refl _ _|exact HB3.out|exact HB2.out|apply below_alloc|apply pw_below_drewN|apply below_drew1)|exact Below.refl _ _))) room tmo node x y num HLL.out.1 HLL.out.2).mono ?_;rintro e w3 ⟨V2,V3,he,rd⟩;rw [HLR.out] at rd;rw [HCR.out] at he;subst he;have hz:=rd.blk (b:=w2.heap.size) (t:=45) (cells:=#[.int .i64 0,.int .i64 0,.slice none 0 0,.slice none 0 0]) (by first|exact heap_alloc_new _ _|exact blk_drew (heap_alloc_new _ _)|exact blk_drewN (heap_alloc_new _ _) _) (by decide) (by decide);obtain ⟨A3,c3,hA3⟩:=rd.rt.sl;subst hA3;obtain ⟨A4,c4,hA4⟩:=rd.rt.sb;subst hA4;have HT3:=Aside0.mk ((HT.out.below (by repeat (first|(with_reducible first|exact Below.refl _ _|exact HB3.out|exact HB2.out|apply below_alloc|apply pw_below_drewN|apply below_drew1)|exact Below.refl _ _))).refd rd.kept rd.bel);have HR3:=Aside0.mk rd.rt;have HD3:=Aside0.mk ((HD.out.below (by repeat (first|(with_reducible first|exact Below.refl _ _|exact HB3.out|exact HB2.out|apply below_alloc|apply pw_below_drewN|apply below_drew1)|exact Below.refl _ _))).ref rd.kept);clear rd k0 k1 k2 k3 a1 a2 a3 a4;have k0:=(show w3.cell? ⟨W.heap.size,0,none⟩=some (.int .i64 room) from blk_cell HD3.out.b4 0);have k1:=(show w3.cell? ⟨W.heap.size,1,none⟩=some (.int .i64 tmo) from blk_cell HD3.out.b4 1);have k2:=(show w3.cell? ⟨W.heap.size,2,none⟩=some (.slice A1 l.length c1) from blk_cell HD3.out.b4 2);have k3:=(show w3.cell? ⟨W.heap.size,3,none⟩=some (.slice A2 lb.length c2) from blk_cell HD3.out.b4 3);have a1:=(show w3.cell? ⟨W.heap.size+1,1,none⟩=some (.int .i64 node) from blk_cell HD3.out.b5 1);have a2:=(show w3.cell? ⟨W.heap.size+1,2,none⟩=some (.int .i64 num) from blk_cell HD3.out.b5 2);have a3:=(show w3.cell? ⟨W.heap.size+1,3,none⟩=some (.int .i64 x) from blk_cell HD3.out.b5 3);have a4:=(show w3.cell? ⟨W.heap.size+1,4,none⟩=some (.int .i64 y) from blk_cell HD3.out.b5 4);have hg7:=(show W.heap.size+2 < w3.heap.size from blk_lt HD3.out.b6);have m2_:=(show ¬ W.heap.size=w3.heap.size by omega);have n2_:=(show ¬ w3.heap.size=W.heap.size by omega);have m3_:=(show ¬ W.heap.size+1=w3.heap.size by omega);have n3_:=(show ¬ w3.heap.size=W.heap.size+1 by omega);have u0:=(show w3.cell? ⟨w2.heap.size,0,none⟩=some (.int .i64 0) from blk_cell hz 0);have uz0:=(show w3.frozen? ⟨w2.heap.size,0,none⟩=false from blk_frozen hz 0);have u1:=(show w3.cell? ⟨w2.heap.size,1,none⟩=some (.int .i64 0) from blk_cell hz 1);have uz1:=(show w3.frozen? ⟨w2.heap.size,1,none⟩=false from blk_frozen hz 1);have u2:=(show w3.cell? ⟨w2.heap.size,2,none⟩=some (.slice none 0 0) from blk_cell hz 2);have uz2:=(show w3.frozen? ⟨w2.heap.size,2,none⟩=false from blk_frozen hz 2);have u3:=(show w3.cell? ⟨w2.heap.size,3,none⟩=some (.slice none 0 0) from blk_cell hz 3);have uz3:=(show w3.frozen? ⟨w2.heap.size,3,none⟩=false from blk_frozen hz 3);have HZ:=Aside0.mk hz;clear hz)
    | (go_at_call 53;refine (ref_meet (HR.out.below (by repeat (first|(with_reducible first|exact Below.refl _ _|exact HB3.out|exact HB2.out|apply below_alloc|apply pw_below_drewN|apply below_drew1)|exact Below.refl _ _))) (below_step HT.out.bel (by repeat (first|(with_reducible first|exact Below.refl _ _|exact HB3.out|exact HB2.out|apply below_alloc|apply pw_below_drewN|apply below_drew1)|exact Below.refl _ _))) room tmo node x y num HLL.out.1 HLL.out.2).mono ?_;rintro e w3 ⟨V2,V3,he,rd⟩;rw [HLR.out] at rd;rw [HCR.out] at he;subst he;obtain ⟨A3,c3,hA3⟩:=rd.rt.sl;subst hA3;obtain ⟨A4,c4,hA4⟩:=rd.rt.sb;subst hA4;have HT3:=Aside0.mk ((HT.out.below (by repeat (first|(with_reducible first|exact Below.refl _ _|exact HB3.out|exact HB2.out|apply below_alloc|apply pw_below_drewN|apply below_drew1)|exact Below.refl _ _))).refd rd.kept rd.bel);have HR3:=Aside0.mk rd.rt;have HD3:=Aside0.mk ((HD.out.below (by repeat (first|(with_reducible first|exact Below.refl _ _|exact HB3.out|exact HB2.out|apply below_alloc|apply pw_below_drewN|apply below_drew1)|exact Below.refl _ _))).ref rd.kept);clear rd k0 k1 k2 k3 a1 a2 a3 a4;have k0:=(show w3.cell? ⟨W.heap.size,0,none⟩=some (.int .i64 room) from blk_cell HD3.out.b4 0);have k1:=(show w3.cell? ⟨W.heap.size,1,none⟩=some (.int .i64 tmo) from blk_cell HD3.out.b4 1);have k2:=(show w3.cell? ⟨W.heap.size,2,none⟩=some (.slice A1 l.length c1) from blk_cell HD3.out.b4 2);have k3:=(show w3.cell? ⟨W.heap.size,3,none⟩=some (.slice A2 lb.length c2) from blk_cell HD3.out.b4 3);have a1:=(show w3.cell? ⟨W.heap.size+1,1,none⟩=some (.int .i64 node) from blk_cell HD3.out.b5 1);have a2:=(show w3.cell? ⟨W.heap.size+1,2,none⟩=some (.int .i64 num) from blk_cell HD3.out.b5 2);have a3:=(show w3.cell? ⟨W.heap.size+1,3,none⟩=some (.int .i64 x) from blk_cell HD3.out.b5 3);have a4:=(show w3.cell? ⟨W.heap.size+1,4,none⟩=some (.int .i64 y) from blk_cell HD3.out.b5 4);have hg7:=(show W.heap.size+2 < w3.heap.size from blk_lt HD3.out.b6);have m2_:=(show ¬ W.heap.size=w3.heap.size by omega);have n2_:=(show ¬ w3.heap.size=W.heap.size by omega);have m3_:=(show ¬ W.heap.size+1=w3.heap.size by omega);have n3_:=(show ¬ w3.heap.size=W.heap.size+1 by omega)))
  all_goals
   (try go_wp2_with fail)
   go_meet
   case rel =>
    have hws:=HWS.out
    first
    | exact ⟨w1.heap.size,A3,c3,A4,c4,rfl,rfl,by omega,by omega,⟨HT3.out.keepB HZ.out (by decide) (by decide) (set4 HZ.out _ _ _ _).2 ((((HT3.out.bel.setCell (by show w.heap.size≤w1.heap.size;omega) _).setCell (by show w.heap.size≤w1.heap.size;omega) _).setCell (by show w.heap.size≤w1.heap.size;omega) _).setCell (by show w.heap.size≤w1.heap.size;omega) _)⟩,⟨HR3.out.keep45 HZ.out (set4 HZ.out _ _ _ _).2⟩,⟨HD3.out.keepB (set4 HZ.out _ _ _ _).2 (by omega) (by omega) (by omega) (by omega)⟩,⟨(set4 HZ.out _ _ _ _).1⟩⟩
    | exact ⟨w2.heap.size,A3,c3,A4,c4,rfl,rfl,by omega,by omega,⟨HT3.out.keepB HZ.out (by decide) (by decide) (set4 HZ.out _ _ _ _).2 ((((HT3.out.bel.setCell (by show w.heap.size≤w2.heap.size;omega) _).setCell (by show w.heap.size≤w2.heap.size;omega) _).setCell (by show w.heap.size≤w2.heap.size;omega) _).setCell (by show w.heap.size≤w2.heap.size;omega) _)⟩,⟨HR3.out.keep45 HZ.out (set4 HZ.out _ _ _ _).2⟩,⟨HD3.out.keepB (set4 HZ.out _ _ _ _).2 (by omega) (by omega) (by omega) (by omega)⟩,⟨(set4 HZ.out _ _ _ _).1⟩⟩
    | exact ⟨w3.heap.size,A3,c3,A4,c4,rfl,rfl,by omega,by omega,⟨HT3.out.below (below_alloc (Below.refl _ _) _)⟩,⟨HR3.out.below (below_alloc (Below.refl _ _) _)⟩,⟨HD3.out.below (below_alloc (Below.refl _ _) _)⟩,⟨heap_alloc_new _ _⟩⟩
    | (trace_state;fail)
 case rest =>
  obtain ⟨g8,A3,c3,A4,c4,rfl,rfl,hn8,hn9,HT4,HR4,HD4,HQ4⟩:=hcut
  clear HT HR HD
  (try go_wp2_with fail)
  have q0:=(show wc.cell? ⟨g8,0,none⟩=some (.int .i64 room) from blk_cell HQ4.out 0)
  have q1:=(show wc.cell? ⟨g8,1,none⟩=some (.int .i64 tmo) from blk_cell HQ4.out 1)
  have q2:=(show wc.cell? ⟨g8,2,none⟩=some (.slice A3 l'.length c3) from blk_cell HQ4.out 2)
  have q3:=(show wc.cell? ⟨g8,3,none⟩=some (.slice A4 lb.length c4) from blk_cell HQ4.out 3)
  have a1:=(show wc.cell? ⟨W.heap.size+1,1,none⟩=some (.int .i64 node) from blk_cell HD4.out.b5 1)
  have a2:=(show wc.cell? ⟨W.heap.size+1,2,none⟩=some (.int .i64 num) from blk_cell HD4.out.b5 2)
  have a3:=(show wc.cell? ⟨W.heap.size+1,3,none⟩=some (.int .i64 x) from blk_cell HD4.out.b5 3)
  have a4:=(show wc.cell? ⟨W.heap.size+1,4,none⟩=some (.int .i64 y) from blk_cell HD4.out.b5 4)
  go_region_held3 (fun w'=>w'.cell? ⟨g8,0,none⟩=some (.int .i64 room)∧w'.cell? ⟨g8,1,none⟩=some (.int .i64 tmo)∧w'.cell? ⟨g8,2,none⟩=some (.slice A3 l'.length c3)∧w'.cell? ⟨g8,3,none⟩=some (.slice A4 lb.length c4)∧w'.cell? ⟨W.heap.size+1,1,none⟩=some (.int .i64 node)∧w'.cell? ⟨W.heap.size+1,2,none⟩=some (.int .i64 num)∧w'.cell? ⟨W.heap.size+1,3,none⟩=some (.int .i64 x)∧w'.cell? ⟨W.heap.size+1,4,none⟩=some (.int .i64 y)) (go_keep)
   (first|(go_at_call 14;refine ((HT4.out.below (by repeat (first|(with_reducible first|exact Below.refl _ _|apply below_alloc|apply pw_below_drewN|apply below_drew1)|exact Below.refl _ _))).Meet_any node x y num).mono ?_;rintro e w5 ⟨he,d⟩;rw [HC.out] at he;rw [HM.out] at d;subst he;have hm:=(show Below wc.heap.size wc _ from ((by repeat (first|(with_reducible first|exact Below.refl _ _|apply below_alloc|apply pw_below_drewN|apply below_drew1)|exact Below.refl _ _)):Below wc.heap.size wc wc.drew));have HT5:=Aside0.mk d.pt;have HR5:=Aside0.mk ((HR4.out.below hm).foot d.kept);have HD5:=Aside0.mk ((HD4.out.below hm).foot d.kept);have HQ5:=Aside0.mk (blk_kept (blk_below HQ4.out hm) d.kept (foot_not (blk_below HQ4.out hm) (by decide) (by decide)));clear d hm q0 q1 q2 q3 a1 a2 a3 a4;have q0:=(show w5.cell? ⟨g8,0,none⟩=some (.int .i64 room) from blk_cell HQ5.out 0);have q1:=(show w5.cell? ⟨g8,1,none⟩=some (.int .i64 tmo) from blk_cell HQ5.out 1);have q2:=(show w5.cell? ⟨g8,2,none⟩=some (.slice A3 l'.length c3) from blk_cell HQ5.out 2);have q3:=(show w5.cell? ⟨g8,3,none⟩=some (.slice A4 lb.length c4) from blk_cell HQ5.out 3);have a1:=(show w5.cell? ⟨W.heap.size+1,1,none⟩=some (.int .i64 node) from blk_cell HD5.out.b5 1);have a2:=(show w5.cell? ⟨W.heap.size+1,2,none⟩=some (.int .i64 num) from blk_cell HD5.out.b5 2);have a3:=(show w5.cell? ⟨W.heap.size+1,3,none⟩=some (.int .i64 x) from blk_cell HD5.out.b5 3);have a4:=(show w5.cell? ⟨W.heap.size+1,4,none⟩=some (.int .i64 y) from blk_cell HD5.out.b5 4);have s0:=(show w5.cell? ⟨W.heap.size+1+1,0,none⟩=some (.int .i64 0) from blk_cell HD5.out.b6 0);have z0:=(show w5.frozen? ⟨W.heap.size+1+1,0,none⟩=false from blk_frozen HD5.out.b6 0);have s1:=(show w5.cell? ⟨W.heap.size+1+1,1,none⟩=some (.int .i64 0) from blk_cell HD5.out.b6 1);have z1:=(show w5.frozen? ⟨W.heap.size+1+1,1,none⟩=false from blk_frozen HD5.out.b6 1);have s2:=(show w5.cell? ⟨W.heap.size+1+1,2,none⟩=some (.slice none 0 0) from blk_cell HD5.out.b6 2);have z2:=(show w5.frozen? ⟨W.heap.size+1+1,2,none⟩=false from blk_frozen HD5.out.b6 2);have s3:=(show w5.cell? ⟨W.heap.size+1+1,3,none⟩=some (.slice none 0 0) from blk_cell HD5.out.b6 3);have z3:=(show w5.frozen? ⟨W.heap.size+1+1,3,none⟩=false from blk_frozen HD5.out.b6 3)))
  all_goals
   (try go_wp2_with fail)
   have hs4:=set4 (b:=W.heap.size+1+1) HD5.out.b6 (.int .i64 room) (.int .i64 tmo) (.slice A3 l'.length c3) (.slice A4 lb.length c4)
   refine bodyPost_ret (v:=.tuple #[.agg #[.int .i64 room,.int .i64 tmo,.slice A3 l'.length c3,.slice A4 lb.length c4],.bool (cT == cR)]) (results_list (rs:=[.cell 6 45,.tmp 7]) rfl (by simp) (.cell (W.heap.size+2) 45 _ (0,0) _ rfl hs4.1 Try.underlying45 rfl info45z (.tmp .nil))) rfl ?_
   have hge:w.heap.size≤W.heap.size+2:=Nat.le_trans HWS.out (Nat.le_add_right _ _)
   exact ⟨_,_,rfl,HT5.out.keepB HD5.out.b6 (by decide) (by decide) hs4.2 ((((HT5.out.bel.setCell hge _).setCell hge _).setCell hge _).setCell hge _),HR5.out.keep45 HD5.out.b6 hs4.2,HD5.out.kp.of_keep hs4.2 (.inr (by omega))⟩
end
end Go.Proofs.Ytpejjpecdkbleaa.Print
/-! #### MaPeers20 -/
/- peers: do, whatever is done. -/
namespace Go.Proofs.Ytpejjpecdkbleaa.Print
open Go.RowKit Go.Proofs.YtpejjpecdkbleaaW.PrintWords Go.Proofs.YtpejjpecdkbleaaW.PrintLast Go.Proofs.YtpejjpecdkbleaaW.PrintMore
open Go.Proofs.Ytpejjpecdkbleaa.Pure (withoutL findI insG metR meetR lateR expR setR leaveR rollR)
set_option linter.unusedVariables false
set_option linter.unusedSimpArgs false
/-- A table behind an act. -/
def actM (room tmo:Int) (m:PM) (bs:List Bool) (kind node num x y:Int) (s:ByteArray) (on:Bool):PM×List Bool :=
 if kind=0 then (meetM room m bs node x y num,bs)
 else if kind=1 then (if tickB num=true then setM m node (fun p=>{ p with f6:=mx p.f6 num }) else m,bs)
 else if kind=2 then (leaveM m node,bs)
 else if kind=3 then (if peerB node=true then m.set node.toNat none else m,if peerB node=true then bs.set node.toNat true else bs)
 else if kind=4 then (if tickB num=true then m.map (expM num tmo) else m,bs)
 else if kind=5 then (if (s.size:Int)≤20 then setM m node (fun p=>{ p with f2:=s }) else m,bs)
 else if kind=6 then (setM m node (fun p=>{ p with f3:=on }),bs)
 else if kind=7 then (setM m node (fun p=>{ p with f4:=on }),bs)
 else if kind=8 then (setM m node (fun p=>{ p with f5:=on }),bs)
 else if kind=9 then (if tickB num=true then setM m node (fun p=>{ p with f7:=mn (p.f7+num) 1099511627776 }) else m,bs)
 else if kind=10 then (m.map (Option.map roll1),bs)
 else (m,bs)
theorem if_not {α:Type} (c:Bool) (a b:α):(if (!c)=true then a else b)=if c=true then b else a:=by cases c <;> rfl
theorem act_ok {q:List Rf×Int} {mT:PM} {cT:Int} (h:q=(listM mT,cT)):decide (cT=q.2)=true∧q.1=listM mT:=by
 rw [h]
 exact ⟨decide_eq_true rfl,rfl⟩
section
variable {w W:World} {VL VB:Value} {l:List Rf} {lb:List Int} {room tmo x y kind node num:Int} {s:ByteArray} {on:Bool} {g:Nat} {m:PM} {bs:List Bool}
def DoPost (w W:World) (g:Nat) (room tmo:Int) (m:PM) (bs:List Bool) (l:List Rf) (lb:List Int) (a:PM×List Bool) (e:Ending) (W2:World):Prop :=
 ∃ V2 V3 ok l' lb',e=.returned (.tuple #[.agg #[.int .i64 room,.int .i64 tmo,V2,V3],.bool ok])∧PT w W2 g room tmo a.1 a.2∧RT w W2 V2 V3 l' lb'∧Kept W W2 (TyS W)∧(l=listM m→SimB bs lb→ok=true∧l'=listM a.1∧SimB a.2 lb'∧lb'.length≤lb.length+1)
theorem do_any0 (t:PT w W g room tmo m bs) (r:RT w W VL VB l lb) (hl:l.length < 1000000) (hlb:lb.length < 1000000) (hnd:(l.map (·.f0)).Nodup) (hs:∀ x∈l,0≤x.f6∧x.f6≤1099511627776) (hq:∀ x∈l,0≤x.f7∧x.f7≤1099511627776) :
  Calls Try.prog 20 #[.pointer (some ⟨g,0,none⟩),.agg #[.int .i64 room,.int .i64 tmo,VL,VB],.agg #[.int .i64 0,.int .i64 node,.int .i64 num,.int .i64 x,.int .i64 y,.string s,.bool on]] W (DoPost w W g room tmo m bs l lb (actM room tmo m bs 0 node num x y s on)):=by
 refine (do0_calls t r hl hlb rfl rfl rfl rfl).mono ?_
 rintro e W2 ⟨V2,V3,rfl,h1,h2,h3⟩
 refine ⟨V2,V3,_,_,_,rfl,h1,h2,h3,fun hlm hsb=>?_⟩
 subst hlm
 have e:=meetR_sim (n:=node) (room:=room) (now:=num) t.inv hsb x y
 have h:=act_ok e
 exact ⟨h.1,h.2,hsb,by omega⟩
theorem do_any1 (t:PT w W g room tmo m bs) (r:RT w W VL VB l lb) (hl:l.length < 1000000) (hlb:lb.length < 1000000) (hnd:(l.map (·.f0)).Nodup) (hs:∀ x∈l,0≤x.f6∧x.f6≤1099511627776) (hq:∀ x∈l,0≤x.f7∧x.f7≤1099511627776) :
  Calls Try.prog 20 #[.pointer (some ⟨g,0,none⟩),.agg #[.int .i64 room,.int .i64 tmo,VL,VB],.agg #[.int .i64 1,.int .i64 node,.int .i64 num,.int .i64 x,.int .i64 y,.string s,.bool on]] W (DoPost w W g room tmo m bs l lb (actM room tmo m bs 1 node num x y s on)):=by
 refine (do1_calls t r hl hlb rfl rfl rfl rfl).mono ?_
 rintro e W2 ⟨V2,V3,rfl,h1,h2,h3⟩
 refine ⟨V2,V3,_,_,_,rfl,h1,h2,h3,fun hlm hsb=>?_⟩
 subst hlm
 have e:=setR_sim (n:=node) t.inv (!decide (0≤num∧num≤1099511627776)) (fun p=>{ p with f6:=mx p.f6 num }) (fun q=>if q.f6 < num then { q with f6:=num } else q) (fun _=>rfl) (fun i p hp=>by
  unfold refP mx
  by_cases h:p.f6 < num
  ·
   simp only [h,if_true]
   all_goals (split <;> first|rfl|(exfalso;omega))
  ·
   simp only [h,if_false]
   all_goals (split <;> first|rfl|(congr 1;omega)|(exfalso;omega)))
 rw [if_not,if_not] at e
 have h:=act_ok e
 exact ⟨h.1,h.2,hsb,by omega⟩
theorem do_any2 (t:PT w W g room tmo m bs) (r:RT w W VL VB l lb) (hl:l.length < 1000000) (hlb:lb.length < 1000000) (hnd:(l.map (·.f0)).Nodup) (hs:∀ x∈l,0≤x.f6∧x.f6≤1099511627776) (hq:∀ x∈l,0≤x.f7∧x.f7≤1099511627776) :
  Calls Try.prog 20 #[.pointer (some ⟨g,0,none⟩),.agg #[.int .i64 room,.int .i64 tmo,VL,VB],.agg #[.int .i64 2,.int .i64 node,.int .i64 num,.int .i64 x,.int .i64 y,.string s,.bool on]] W (DoPost w W g room tmo m bs l lb (actM room tmo m bs 2 node num x y s on)):=by
 refine (do2_calls t r hl hlb rfl rfl rfl rfl).mono ?_
 rintro e W2 ⟨V2,V3,rfl,h1,h2,h3⟩
 refine ⟨V2,V3,_,_,_,rfl,h1,h2,h3,fun hlm hsb=>?_⟩
 subst hlm
 have e:=leaveR_sim (n:=node) t.inv
 have h:=act_ok e
 exact ⟨h.1,h.2,hsb,by omega⟩
theorem do_any3 (t:PT w W g room tmo m bs) (r:RT w W VL VB l lb) (hl:l.length < 1000000) (hlb:lb.length < 1000000) (hnd:(l.map (·.f0)).Nodup) (hs:∀ x∈l,0≤x.f6∧x.f6≤1099511627776) (hq:∀ x∈l,0≤x.f7∧x.f7≤1099511627776) :
  Calls Try.prog 20 #[.pointer (some ⟨g,0,none⟩),.agg #[.int .i64 room,.int .i64 tmo,VL,VB],.agg #[.int .i64 3,.int .i64 node,.int .i64 num,.int .i64 x,.int .i64 y,.string s,.bool on]] W (DoPost w W g room tmo m bs l lb (actM room tmo m bs 3 node num x y s on)):=by
 obtain ⟨lb',hsim⟩:∃ lb',(banR l lb node).2.1=lb':=⟨_,rfl⟩
 refine (do3_calls t r hl hlb rfl rfl rfl rfl rfl hsim).mono ?_
 rintro e W2 ⟨V2,V3,rfl,h1,h2,h3⟩
 refine ⟨V2,V3,_,_,_,rfl,h1,h2,h3,fun hlm hsb=>?_⟩
 subst hlm
 obtain ⟨lb2,e,h5,h6⟩:=banR_sim (n:=node) (lb:=lb) t.inv hsb
 have e1:(banR (listM m) lb node).2.1=lb2:=by rw [e]
 rw [hsim] at e1
 subst e1
 exact ⟨decide_eq_true (by rw [e]),by rw [e];rfl,h5,h6⟩
theorem do_any4 (t:PT w W g room tmo m bs) (r:RT w W VL VB l lb) (hl:l.length < 1000000) (hlb:lb.length < 1000000) (hnd:(l.map (·.f0)).Nodup) (hs:∀ x∈l,0≤x.f6∧x.f6≤1099511627776) (hq:∀ x∈l,0≤x.f7∧x.f7≤1099511627776) :
  Calls Try.prog 20 #[.pointer (some ⟨g,0,none⟩),.agg #[.int .i64 room,.int .i64 tmo,VL,VB],.agg #[.int .i64 4,.int .i64 node,.int .i64 num,.int .i64 x,.int .i64 y,.string s,.bool on]] W (DoPost w W g room tmo m bs l lb (actM room tmo m bs 4 node num x y s on)):=by
 have hgl:(if tickB num=true then goneM num tmo m 16 else []).length < 1000000:=by
  obtain ⟨⟨ps,tab,hm⟩,inv⟩:=t
  have:=goneI_len num tmo ps 16
  rw [goneM_eq,hm] at this
  split
  ·
   omega
  ·
   simp
 refine (do4_calls t r hl hlb hs rfl rfl rfl rfl hgl).mono ?_
 rintro e W2 ⟨V2,V3,rfl,h1,h2,h3⟩
 refine ⟨V2,V3,_,_,_,rfl,h1,h2,h3,fun hlm hsb=>?_⟩
 subst hlm
 refine ⟨decide_eq_true (late_sim t.inv).symm,exp_sim t.inv,hsb,by omega⟩
theorem do_any5 (t:PT w W g room tmo m bs) (r:RT w W VL VB l lb) (hl:l.length < 1000000) (hlb:lb.length < 1000000) (hnd:(l.map (·.f0)).Nodup) (hs:∀ x∈l,0≤x.f6∧x.f6≤1099511627776) (hq:∀ x∈l,0≤x.f7∧x.f7≤1099511627776) :
  Calls Try.prog 20 #[.pointer (some ⟨g,0,none⟩),.agg #[.int .i64 room,.int .i64 tmo,VL,VB],.agg #[.int .i64 5,.int .i64 node,.int .i64 num,.int .i64 x,.int .i64 y,.string s,.bool on]] W (DoPost w W g room tmo m bs l lb (actM room tmo m bs 5 node num x y s on)):=by
 refine (do5_calls t r hl hlb rfl rfl rfl rfl).mono ?_
 rintro e W2 ⟨V2,V3,rfl,h1,h2,h3⟩
 refine ⟨V2,V3,_,_,_,rfl,h1,h2,h3,fun hlm hsb=>?_⟩
 subst hlm
 have e:=setR_sim (n:=node) t.inv (decide (20 < (s.size:Int))) (fun p=>{ p with f2:=s }) (fun q=>{ q with f2:=s }) (fun _=>rfl) (fun i p hp=>rfl)
 have hi:∀ {α:Type} (a b:α),(if decide (20 < (s.size:Int))=true then a else b)=if (s.size:Int)≤20 then b else a:=by
  intro α a b
  by_cases h:(s.size:Int)≤20
  ·
   rw [if_pos h,if_neg (by simp;omega)]
  ·
   rw [if_neg h,if_pos (by simp;omega)]
 rw [hi,hi] at e
 have h:=act_ok e
 exact ⟨h.1,h.2,hsb,by omega⟩
theorem do_any6 (t:PT w W g room tmo m bs) (r:RT w W VL VB l lb) (hl:l.length < 1000000) (hlb:lb.length < 1000000) (hnd:(l.map (·.f0)).Nodup) (hs:∀ x∈l,0≤x.f6∧x.f6≤1099511627776) (hq:∀ x∈l,0≤x.f7∧x.f7≤1099511627776) :
  Calls Try.prog 20 #[.pointer (some ⟨g,0,none⟩),.agg #[.int .i64 room,.int .i64 tmo,VL,VB],.agg #[.int .i64 6,.int .i64 node,.int .i64 num,.int .i64 x,.int .i64 y,.string s,.bool on]] W (DoPost w W g room tmo m bs l lb (actM room tmo m bs 6 node num x y s on)):=by
 refine (do6_calls t r hl hlb (if on=true then 1 else 0) rfl rfl rfl rfl rfl).mono ?_
 rintro e W2 ⟨V2,V3,rfl,h1,h2,h3⟩
 refine ⟨V2,V3,_,_,_,rfl,h1,h2,h3,fun hlm hsb=>?_⟩
 subst hlm
 have e:=setR_sim (n:=node) t.inv (false) (fun p=>{ p with f3:=on }) (fun q=>{ q with f3:=(if on=true then 1 else 0) == (1:Int) }) (fun _=>rfl) (fun i p hp=>by cases on <;> rfl)
 have h:=act_ok e
 exact ⟨h.1,h.2,hsb,by omega⟩
theorem do_any7 (t:PT w W g room tmo m bs) (r:RT w W VL VB l lb) (hl:l.length < 1000000) (hlb:lb.length < 1000000) (hnd:(l.map (·.f0)).Nodup) (hs:∀ x∈l,0≤x.f6∧x.f6≤1099511627776) (hq:∀ x∈l,0≤x.f7∧x.f7≤1099511627776) :
  Calls Try.prog 20 #[.pointer (some ⟨g,0,none⟩),.agg #[.int .i64 room,.int .i64 tmo,VL,VB],.agg #[.int .i64 7,.int .i64 node,.int .i64 num,.int .i64 x,.int .i64 y,.string s,.bool on]] W (DoPost w W g room tmo m bs l lb (actM room tmo m bs 7 node num x y s on)):=by
 refine (do7_calls t r hl hlb (if on=true then 1 else 0) rfl rfl rfl rfl rfl).mono ?_
 rintro e W2 ⟨V2,V3,rfl,h1,h2,h3⟩
 refine ⟨V2,V3,_,_,_,rfl,h1,h2,h3,fun hlm hsb=>?_⟩
 subst hlm
 have e:=setR_sim (n:=node) t.inv (false) (fun p=>{ p with f4:=on }) (fun q=>{ q with f4:=(if on=true then 1 else 0) == (1:Int) }) (fun _=>rfl) (fun i p hp=>by cases on <;> rfl)
 have h:=act_ok e
 exact ⟨h.1,h.2,hsb,by omega⟩
theorem do_any8 (t:PT w W g room tmo m bs) (r:RT w W VL VB l lb) (hl:l.length < 1000000) (hlb:lb.length < 1000000) (hnd:(l.map (·.f0)).Nodup) (hs:∀ x∈l,0≤x.f6∧x.f6≤1099511627776) (hq:∀ x∈l,0≤x.f7∧x.f7≤1099511627776) :
  Calls Try.prog 20 #[.pointer (some ⟨g,0,none⟩),.agg #[.int .i64 room,.int .i64 tmo,VL,VB],.agg #[.int .i64 8,.int .i64 node,.int .i64 num,.int .i64 x,.int .i64 y,.string s,.bool on]] W (DoPost w W g room tmo m bs l lb (actM room tmo m bs 8 node num x y s on)):=by
 refine (do8_calls t r hl hlb (if on=true then 1 else 0) rfl rfl rfl rfl rfl).mono ?_
 rintro e W2 ⟨V2,V3,rfl,h1,h2,h3⟩
 refine ⟨V2,V3,_,_,_,rfl,h1,h2,h3,fun hlm hsb=>?_⟩
 subst hlm
 have e:=setR_sim (n:=node) t.inv (false) (fun p=>{ p with f5:=on }) (fun q=>{ q with f5:=(if on=true then 1 else 0) == (1:Int) }) (fun _=>rfl) (fun i p hp=>by cases on <;> rfl)
 have h:=act_ok e
 exact ⟨h.1,h.2,hsb,by omega⟩
theorem do_any9 (t:PT w W g room tmo m bs) (r:RT w W VL VB l lb) (hl:l.length < 1000000) (hlb:lb.length < 1000000) (hnd:(l.map (·.f0)).Nodup) (hs:∀ x∈l,0≤x.f6∧x.f6≤1099511627776) (hq:∀ x∈l,0≤x.f7∧x.f7≤1099511627776) :
  Calls Try.prog 20 #[.pointer (some ⟨g,0,none⟩),.agg #[.int .i64 room,.int .i64 tmo,VL,VB],.agg #[.int .i64 9,.int .i64 node,.int .i64 num,.int .i64 x,.int .i64 y,.string s,.bool on]] W (DoPost w W g room tmo m bs l lb (actM room tmo m bs 9 node num x y s on)):=by
 refine (do9_calls t r hl hlb rfl rfl rfl rfl hq).mono ?_
 rintro e W2 ⟨V2,V3,rfl,h1,h2,h3⟩
 refine ⟨V2,V3,_,_,_,rfl,h1,h2,h3,fun hlm hsb=>?_⟩
 subst hlm
 have e:=setR_sim (n:=node) t.inv (!decide (0≤num∧num≤1099511627776)) (fun p=>{ p with f7:=mn (p.f7+num) 1099511627776 }) (fun q=>{ q with f7:=if 1099511627776 < q.f7+num then 1099511627776 else q.f7+num }) (fun _=>rfl) (fun i p hp=>by
  unfold refP mn
  by_cases h:1099511627776 < p.f7+num
  ·
   simp only [h,if_true]
   all_goals (split <;> first|rfl|(congr 1;omega)|(exfalso;omega))
  ·
   simp only [h,if_false]
   all_goals (split <;> first|rfl|(congr 1;omega)|(exfalso;omega)))
 rw [if_not,if_not] at e
 have h:=act_ok e
 exact ⟨h.1,h.2,hsb,by omega⟩
theorem do_any10 (t:PT w W g room tmo m bs) (r:RT w W VL VB l lb) (hl:l.length < 1000000) (hlb:lb.length < 1000000) (hnd:(l.map (·.f0)).Nodup) (hs:∀ x∈l,0≤x.f6∧x.f6≤1099511627776) (hq:∀ x∈l,0≤x.f7∧x.f7≤1099511627776) :
  Calls Try.prog 20 #[.pointer (some ⟨g,0,none⟩),.agg #[.int .i64 room,.int .i64 tmo,VL,VB],.agg #[.int .i64 10,.int .i64 node,.int .i64 num,.int .i64 x,.int .i64 y,.string s,.bool on]] W (DoPost w W g room tmo m bs l lb (actM room tmo m bs 10 node num x y s on)):=by
 refine (do10_calls t r hl hlb hnd rfl rfl).mono ?_
 rintro e W2 ⟨V2,V3,rfl,h1,h2,h3⟩
 refine ⟨V2,V3,_,_,_,rfl,h1,h2,h3,fun hlm hsb=>?_⟩
 subst hlm
 exact ⟨rfl,roll_sim m,hsb,by omega⟩
theorem do_any (t:PT w W g room tmo m bs) (r:RT w W VL VB l lb) (hl:l.length < 1000000) (hlb:lb.length < 1000000) (hnd:(l.map (·.f0)).Nodup) (hs:∀ x∈l,0≤x.f6∧x.f6≤1099511627776) (hq:∀ x∈l,0≤x.f7∧x.f7≤1099511627776) :
  Calls Try.prog 20 #[.pointer (some ⟨g,0,none⟩),.agg #[.int .i64 room,.int .i64 tmo,VL,VB],.agg #[.int .i64 kind,.int .i64 node,.int .i64 num,.int .i64 x,.int .i64 y,.string s,.bool on]] W (DoPost w W g room tmo m bs l lb (actM room tmo m bs kind node num x y s on)):=by
 by_cases k0:kind=0
 ·
  subst k0
  exact do_any0 t r hl hlb hnd hs hq
 by_cases k1:kind=1
 ·
  subst k1
  exact do_any1 t r hl hlb hnd hs hq
 by_cases k2:kind=2
 ·
  subst k2
  exact do_any2 t r hl hlb hnd hs hq
 by_cases k3:kind=3
 ·
  subst k3
  exact do_any3 t r hl hlb hnd hs hq
 by_cases k4:kind=4
 ·
  subst k4
  exact do_any4 t r hl hlb hnd hs hq
 by_cases k5:kind=5
 ·
  subst k5
  exact do_any5 t r hl hlb hnd hs hq
 by_cases k6:kind=6
 ·
  subst k6
  exact do_any6 t r hl hlb hnd hs hq
 by_cases k7:kind=7
 ·
  subst k7
  exact do_any7 t r hl hlb hnd hs hq
 by_cases k8:kind=8
 ·
  subst k8
  exact do_any8 t r hl hlb hnd hs hq
 by_cases k9:kind=9
 ·
  subst k9
  exact do_any9 t r hl hlb hnd hs hq
 by_cases k10:kind=10
 ·
  subst k10
  exact do_any10 t r hl hlb hnd hs hq
 have ha:actM room tmo m bs kind node num x y s on=(m,bs):=by
  unfold actM
  rw [if_neg k0,if_neg k1,if_neg k2,if_neg k3,if_neg k4,if_neg k5,if_neg k6,if_neg k7,if_neg k8,if_neg k9,if_neg k10]
 rw [ha]
 refine (doN_calls t r hl hlb k0 k1 k2 k3 k4 k5 k6 k7 k8 k9 k10).mono ?_
 rintro e W2 ⟨V2,V3,rfl,h1,h2,h3⟩
 refine ⟨V2,V3,_,_,_,rfl,h1,h2,h3,fun hlm hsb=>?_⟩
 subst hlm
 exact ⟨rfl,rfl,hsb,by omega⟩
/-- Acts keep what holds of a table. -/
theorem count_le:∀ (m:PM) (n:Nat) (x:Option Pr),((m.set n x).filterMap id).length≤(m.filterMap id).length+1
 | [],_,_=>by simp
 | y :: m,0,x=>by
  rw [List.set_cons_zero]
  cases x <;> cases y <;> simp <;> omega
 | y :: m,n+1,x=>by
  have:=count_le m n x
  rw [List.set_cons_succ]
  cases y <;> simp only [List.filterMap_cons,id,List.length_cons] <;> omega
theorem count_none:∀ (m:PM) (n:Nat),((m.set n none).filterMap id).length≤(m.filterMap id).length
 | [],_=>by simp
 | y :: m,0=>by
  rw [List.set_cons_zero]
  cases y <;> simp
 | y :: m,n+1=>by
  have:=count_none m n
  rw [List.set_cons_succ]
  cases y <;> simp only [List.filterMap_cons,id,List.length_cons] <;> omega
theorem count_same:∀ (m:PM) (n:Nat) (p q:Pr),m[n]?=some (some q)→((m.set n (some p)).filterMap id).length=(m.filterMap id).length
 | [],_,_,_,h=>by simp at h
 | y :: m,0,p,q,h=>by
  rw [List.set_cons_zero]
  have:y=some q:=by simpa using h
  subst this
  simp
 | y :: m,n+1,p,q,h=>by
  have:=count_same m n p q (by simpa using h)
  rw [List.set_cons_succ]
  cases y <;> simp only [List.filterMap_cons,id,List.length_cons] <;> omega
theorem count_map (f:Option Pr→Option Pr) (hf:f none=none):∀ m:PM,((m.map f).filterMap id).length≤(m.filterMap id).length
 | []=>by simp
 | none :: m=>by
  have:=count_map f hf m
  rw [List.map_cons,hf]
  simpa using this
 | some p :: m=>by
  have:=count_map f hf m
  rw [List.map_cons]
  cases hx:f (some p) <;> simp only [List.filterMap_cons,id,List.length_cons] <;> omega
theorem count_setM (m:PM) (n:Int) (f:Pr→Pr):((setM m n f).filterMap id).length=(m.filterMap id).length:=by
 unfold setM
 match hx:atM m n with
 | none=>rfl
 | some p =>
  obtain ⟨k,rfl,k1,k2,hk⟩:=atM_some hx
  rw [Int.toNat_natCast]
  exact count_same m k (f p) p hk
theorem act_other (k0:¬ kind=0) (k1:¬ kind=1) (k2:¬ kind=2) (k3:¬ kind=3) (k4:¬ kind=4) (k5:¬ kind=5) (k6:¬ kind=6) (k7:¬ kind=7) (k8:¬ kind=8) (k9:¬ kind=9) (k10:¬ kind=10):actM room tmo m bs kind node num x y s on=(m,bs):=by
 unfold actM
 rw [if_neg k0,if_neg k1,if_neg k2,if_neg k3,if_neg k4,if_neg k5,if_neg k6,if_neg k7,if_neg k8,if_neg k9,if_neg k10]
theorem count_if {c:Prop} [Decidable c] {a b:PM} {room:Int} (ha:c→((a.filterMap id).length:Int)≤room) (hb:((b.filterMap id).length:Int)≤room):(((if c then a else b:PM).filterMap id).length:Int)≤room:=by
 by_cases hc:c
 ·
  rw [if_pos hc]
  exact ha hc
 ·
  rw [if_neg hc]
  exact hb
theorem count_act (h:((m.filterMap id).length:Int)≤room):(((actM room tmo m bs kind node num x y s on).1.filterMap id).length:Int)≤room:=by
 have hs:∀ f,(((setM m node f).filterMap id).length:Int)≤room:=fun f=>by rw [count_setM];exact h
 have hn:∀ n:Nat,(((m.set n none).filterMap id).length:Int)≤room:=fun n=>by
  have:=count_none m n
  omega
 by_cases k0:kind=0
 ·
  subst k0
  show (((meetM room m bs node x y num).filterMap id).length:Int)≤room
  unfold meetM
  refine count_if (fun hc=>?_) h
  have hc2:¬ room≤((m.filterMap id).length:Int):=by
   intro hr
   unfold meetC at hc
   by_cases c1:peerB node=true∧placeB x y=true∧tickB num=true
   ·
    rw [if_pos c1] at hc
    by_cases c2:bs.getD node.toNat false=true
    ·
     rw [if_pos c2] at hc
     omega
    ·
     rw [if_neg c2] at hc
     by_cases c3:m.getD node.toNat none≠none
     ·
      rw [if_pos c3] at hc
      omega
     ·
      rw [if_neg c3,if_pos hr] at hc
      omega
   ·
    rw [if_neg c1] at hc
    omega
  have:=count_le m node.toNat (some (met node x y num))
  omega
 by_cases k1:kind=1
 ·
  subst k1
  exact count_if (fun _=>hs _) h
 by_cases k2:kind=2
 ·
  subst k2
  show (((leaveM m node).filterMap id).length:Int)≤room
  unfold leaveM
  match hx:atM m node with
  | none=>exact h
  | some p=>exact hn _
 by_cases k3:kind=3
 ·
  subst k3
  exact count_if (fun _=>hn _) h
 by_cases k4:kind=4
 ·
  subst k4
  refine count_if (fun _=>?_) h
  have:=count_map (expM num tmo) rfl m
  omega
 by_cases k5:kind=5
 ·
  subst k5
  exact count_if (fun _=>hs _) h
 by_cases k6:kind=6
 ·
  subst k6
  exact hs _
 by_cases k7:kind=7
 ·
  subst k7
  exact hs _
 by_cases k8:kind=8
 ·
  subst k8
  exact hs _
 by_cases k9:kind=9
 ·
  subst k9
  exact count_if (fun _=>hs _) h
 by_cases k10:kind=10
 ·
  subst k10
  have:=count_map (Option.map roll1) rfl m
  show (((m.map (Option.map roll1)).filterMap id).length:Int)≤room
  omega
 rw [act_other k0 k1 k2 k3 k4 k5 k6 k7 k8 k9 k10]
 exact h
theorem act_ban:(actM room tmo m bs kind node num x y s on).2=if kind=3∧peerB node=true then bs.set node.toNat true else bs:=by
 by_cases h3:kind=3
 ·
  subst h3
  show (if peerB node=true then bs.set node.toNat true else bs)=_
  by_cases hp:peerB node=true
  ·
   rw [if_pos hp,if_pos ⟨rfl,hp⟩]
  ·
   rw [if_neg hp,if_neg (fun h:(3:Int)=3∧peerB node=true=>hp h.2)]
 ·
  rw [if_neg (show ¬ (kind=3∧peerB node=true) from fun h=>h3 h.1)]
  by_cases k0:kind=0
  ·
   subst k0;rfl
  by_cases k1:kind=1
  ·
   subst k1;rfl
  by_cases k2:kind=2
  ·
   subst k2;rfl
  by_cases k4:kind=4
  ·
   subst k4;rfl
  by_cases k5:kind=5
  ·
   subst k5;rfl
  by_cases k6:kind=6
  ·
   subst k6;rfl
  by_cases k7:kind=7
  ·
   subst k7;rfl
  by_cases k8:kind=8
  ·
   subst k8;rfl
  by_cases k9:kind=9
  ·
   subst k9;rfl
  by_cases k10:kind=10
  ·
   subst k10;rfl
  rw [act_other k0 k1 k2 h3 k4 k5 k6 k7 k8 k9 k10]
end
end Go.Proofs.Ytpejjpecdkbleaa.Print
/-! #### MaPeersBanned -/
/- The law PeersBanned, by hand. -/
namespace Go.Proofs.Ytpejjpecdkbleaa.Print
open Go.RowKit Go.Proofs.YtpejjpecdkbleaaW.PrintWords Go.Proofs.YtpejjpecdkbleaaW.PrintLast Go.Proofs.YtpejjpecdkbleaaW.PrintMore
set_option linter.unusedVariables false
set_option linter.unusedSimpArgs false
theorem there_get {m:PM} {bs:List Bool} (hi:InvM m bs) (k:Nat) (hk:k < (m.filterMap id).length):∃ j:Nat,1≤j∧j≤15∧(rd_T33 (m.filterMap id) (k:Int)).f0=(j:Int)∧bs.getD j false=false:=by
 have h1:rd_T33 (m.filterMap id) (k:Int)=(m.filterMap id)[k]:=by
  unfold rd_T33
  rw [Int.toNat_natCast,List.getD_eq_getElem?_getD,List.getElem?_eq_getElem hk]
  rfl
 rw [h1]
 obtain ⟨y,hy,hyp⟩:=List.mem_filterMap.1 (List.getElem_mem hk)
 obtain ⟨i,hiy⟩:=List.mem_iff_getElem?.1 hy
 have hyp2:y=some (m.filterMap id)[k]:=hyp
 subst hyp2
 have hn:=hi.node i _ hiy
 have hl:i < m.length:=(List.getElem?_eq_some_iff.1 hiy).1
 rw [hi.len] at hl
 exact ⟨i,hn.2.1,by omega,hn.1,hi.free hiy⟩
theorem there_rise {m:PM} {bs:List Bool} (hi:InvM m bs) (k:Nat) (hk:k+1 < (m.filterMap id).length):(rd_T33 (m.filterMap id) (k:Int)).f0 < (rd_T33 (m.filterMap id) ((k+1:Nat):Int)).f0:=by
 have h1:∀ j (hj:j < (m.filterMap id).length),rd_T33 (m.filterMap id) (j:Int)=(m.filterMap id)[j]:=by
  intro j hj
  unfold rd_T33
  rw [Int.toNat_natCast,List.getD_eq_getElem?_getD,List.getElem?_eq_getElem hj]
  rfl
 rw [h1 k (by omega),h1 (k+1) hk]
 have hs:=listM_sorted m 0 hi.nodeAt
 unfold listM at hs
 rw [List.pairwise_map] at hs
 exact List.pairwise_iff_getElem.1 hs k (k+1) (by omega) hk (by omega)
theorem rt_nil (w W:World):RT w W (.slice none 0 0) (.slice none 0 0) [] []:=⟨Kd.R_nil _ _ _ _ _,Kd.R_nil _ _ _ _ _⟩
theorem ban_put {W:World} {g:Nat} {bs:List Bool} {t:TypeId} (h:W.heap[g]?=some (.cells (bs.map Value.bool).toArray t (0,0))) (k:Nat):(W.setCell ⟨g,k,none⟩ (.bool true)).heap[g]?=some (.cells ((bs.set k true).map Value.bool).toArray t (0,0)):=by
 refine blk_put h k _ ?_
 simp [List.map_set]
theorem ban_cell {W:World} {g:Nat} {bs:List Bool} {t:TypeId} (h:W.heap[g]?=some (.cells (bs.map Value.bool).toArray t (0,0))) (k:Nat) (hk:k < bs.length):W.cell? ⟨g,k,none⟩=some (.bool (bs.getD k false)):=by
 rw [blk_cell h]
 simp [List.getD_eq_getElem?_getD,List.getElem?_eq_getElem hk]
def mosaiclaw18_PeersBanned.f (a0 a1:Int) (l2:List S42):Option Bool:=some true
set_option maxHeartbeats 8000000 in
set_option maxRecDepth 100000 in
theorem mosaiclaw18_PeersBanned.calls (room tmo:Int) (A2:Option Addr) (c2:Nat) (l2:List S42) (r:Bool) (w:World) (hr2:Kd.C k42 w A2 l2.length l2) (hc2:l2.length≤c2) (h:mosaiclaw18_PeersBanned.f room tmo l2=some r) :
  Calls Try.prog 5 #[.int .i64 room,.int .i64 tmo,.slice A2 l2.length c2] w fun e w'=>e=.returned (.bool r)∧Below w.heap.size w w':=by
 obtain rfl:=Option.some.inj (show some true=some r from h)
 clear h
 have HR:=Aside0.mk hr2
 clear hr2 hc2
 by_cases htm:1≤room∧room≤15∧1≤tmo∧tmo≤1099511627776
 ·
  have HTM:=Aside0.mk htm
  clear htm
  go_enter Try.func5,Try.ntmps5
  go_wp2_with fail
  refine (PT_new room tmo w HTM.out).mono ?_
  rintro e W1 ⟨g,rfl,t⟩
  have T1:=Aside0.mk (show PT w W1 g room tmo aw0 noB from t)
  clear t
  go_wp2_with fail
  refine (awake18 _).mono ?_
  rintro e W2 ⟨rfl,hb⟩
  have T2:=Aside0.mk (T1.out.below hb)
  clear hb T1
  go_wp2_with fail
  have HG0:=Aside0.mk (show ((W2.alloc (.cells (noB.map Value.bool).toArray 40)).heap[W2.heap.size]?=some (.cells (noB.map Value.bool).toArray 40 (0,0))) from heap_alloc_new _ _)
  have T3:=Aside0.mk (T2.out.below (below_alloc (Below.refl _ _) (.cells (noB.map Value.bool).toArray 40)))
  have HG8:=Aside0.mk (show w.heap.size≤W2.heap.size from T2.out.bel.size)
  generalize hg8:W2.heap.size=g8 at HG0 HG8 ⊢
  clear T2
  go_loopg [9] 61 (fun gg v9 wr=>∃ (i:Nat) (m:PM) (bs:List Bool),v9=.int .i64 i∧Aside0 (i+gg=61)∧Aside0 (PT w wr g room tmo m bs∧((m.filterMap id).length:Int)≤room)∧Aside0 (wr.heap[g8]?=some (.cells (bs.map Value.bool).toArray 40 (0,0))))
  case atStart=>exact ⟨0,aw0,noB,rfl,⟨by omega⟩,⟨T3.out,by have:=HTM.out;simp [aw0];omega⟩,HG0⟩
  case round =>
   clear T3 HG0 hg8
   obtain ⟨i,m,bs,rfl,HG,HT,HB⟩:=hrel
   by_cases hlt:(i:Int) < (l2.length:Int)
   ·
    by_cases h60:(i:Int) < 60
    ·
     obtain ⟨gg,rfl⟩:∃ q,gk=q+1:=⟨gk - 1,by have:=HG.out;omega⟩
     have HZ:=Aside0.mk (fun (W':World) (hb:Below w.heap.size w W')=>at_T42 (Kd.C_below HR.out hb) (i:Int) (by omega) hlt)
     rw [Int.toNat_natCast] at HZ
     generalize rd_T42 l2 (i:Int)=q at HZ
     obtain ⟨ad,hA,-,-,-,-,-,z5,-⟩:=HZ.out wr HT.out.1.bel
     subst hA
     by_cases h100:(100:Int) < (q.f4.size:Int)
     ·
      go_wp2_with fail
      go_roundg gg
      case measure=>omega
      case rel=>exact ⟨i+1,m,bs,by go_num,⟨by have:=HG.out;omega⟩,HT,HB⟩
     ·
      obtain ⟨ad',hA,z0,z1,z2,z3,z4,-,z6⟩:=HZ.out wr HT.out.1.bel
      obtain rfl:=Option.some.inj hA
      clear hA
      go_wp2_with fail
      refine (do_any HT.out.1 (rt_nil w wr) (by simp) (by simp) List.nodup_nil (by simp) (by simp)).mono ?_
      rintro e W3 ⟨V2,V3,ok,l',lb',rfl,hp,-,hk,-⟩
      have HC3:=Aside0.mk (count_act (room:=room) (tmo:=tmo) (bs:=bs) (kind:=q.f0) (node:=q.f1) (num:=q.f2) (x:=q.f3.f0) (y:=q.f3.f1) (s:=q.f4) (on:=q.f5) HT.out.2)
      have HA3:=Aside0.mk (act_ban (room:=room) (tmo:=tmo) (m:=m) (bs:=bs) (kind:=q.f0) (node:=q.f1) (num:=q.f2) (x:=q.f3.f0) (y:=q.f3.f1) (s:=q.f4) (on:=q.f5))
      generalize actM room tmo m bs q.f0 q.f1 q.f2 q.f3.f0 q.f3.f1 q.f4 q.f5=am at hp HC3 HA3
      obtain ⟨m',bs'⟩:=am
      have HT3:=Aside0.mk (show PT w W3 g room tmo m' bs' from hp)
      have HB3:=Aside0.mk (blk_kept HB.out hk (tyS_not HB.out (by decide) (by decide) (by decide) (by decide)))
      have HL3:=Aside0.mk (show bs.length=16 from HT.out.1.inv.lb)
      clear hp hk HT HB z0 z1 z2 z3 z4 z5 z6
      obtain ⟨ad',hA,z0,z1,-,-,-,-,-⟩:=HZ.out W3 HT3.out.bel
      obtain rfl:=Option.some.inj hA
      clear hA
      go_upto_region 10 with fail
      go_cut [85] from 38 to 144 (fun v85 wc=>v85=.bool (decide (q.f0=3∧1≤q.f1∧q.f1≤15))∧wc=W3)
      case first =>
       by_cases k3:q.f0=3
       ·
        by_cases k1:1≤q.f1
        ·
         by_cases k15:q.f1≤15
         ·
          go_wp2_with fail
          go_meet
          case rel=>exact ⟨congrArg Value.bool (decide_eq_true (by omega)).symm,rfl⟩
         ·
          go_wp2_with fail
          go_meet
          case rel=>exact ⟨congrArg Value.bool (decide_eq_false (by omega)).symm,rfl⟩
        ·
         go_wp2_with fail
         go_meet
         case rel=>exact ⟨congrArg Value.bool (decide_eq_false (by omega)).symm,rfl⟩
       ·
        go_wp2_with fail
        go_meet
        case rel=>exact ⟨congrArg Value.bool (decide_eq_false (by omega)).symm,rfl⟩
      case rest =>
      obtain ⟨rfl,rfl⟩:=hcut
      go_upto_if 85 with fail
      go_cut [] from 38 to 144 (fun wc=>Aside0 (PT w wc g room tmo m' bs')∧Aside0 (wc.heap[g8]?=some (.cells (bs'.map Value.bool).toArray 40 (0,0))))
      case first =>
       by_cases hc:q.f0=3∧1≤q.f1∧q.f1≤15
       ·
        rw [decide_eq_true hc]
        obtain ⟨k3,k1,k15⟩:=hc
        obtain ⟨k,hk⟩:=Int.eq_ofNat_of_zero_le (show 0≤q.f1 by omega)
        have HA4:=Aside0.mk (show bs'=bs.set k true by
         have:=HA3.out
         rw [if_pos ⟨k3,decide_eq_true ⟨k1,k15⟩⟩,hk,Int.toNat_natCast] at this
         exact this)
        have z1':wc.cell? ⟨(ad.add (i * 7)).block,(ad.add (i * 7)).off+1,none⟩=some (.int .i64 (k:Int)):=by rw [← hk];exact z1
        have hk2:(k:Int) < 16:=by omega
        have hf:=blk_frozen HB3.out k
        have hc:=ban_cell HB3.out k (by have:=HL3.out;omega)
        clear z0 z1 k1 k15 k3 hk
        go_wp2_with fail
        go_meet
        case rel=>exact ⟨⟨HT3.out.keepB HB3.out (by decide) (by decide) (KeepBut.set_ (KeepBut.refl _ _ _) k _) (HT3.out.bel.setCell HG8.out _)⟩,⟨by rw [HA4.out];exact ban_put HB3.out k⟩⟩
       ·
        rw [decide_eq_false hc]
        have HA4:=Aside0.mk (show bs'=bs by
         have:=HA3.out
         rw [if_neg (fun h=>hc ⟨h.1,(of_decide_eq_true h.2).1,(of_decide_eq_true h.2).2⟩)] at this
         exact this)
        go_wp2_with fail
        go_meet
        case rel=>exact ⟨HT3,⟨by rw [HA4.out];exact HB3.out⟩⟩
      case rest =>
       obtain ⟨HT4,HB4⟩:=hcut
       clear HT3 HB3
       go_wp2_with fail
       refine (HT4.out.List_any).mono ?_
       rintro e W5 ⟨v,rfl,hv,hb⟩
       obtain ⟨A5,c5,hv5⟩:=Kd.R_slice hv
       subst hv5
       have HL5:=Aside0.mk (Kd.R_reads' hv).2.2
       have HT5:=Aside0.mk (HT4.out.below hb)
       have HB5:=Aside0.mk (blk_below HB4.out hb)
       clear hv hb HT4 HB4
       go_wp2_with fail
       go_loopg [11] 17 (fun g2 v11 wq=>∃ (k:Nat),v11=.int .i64 k∧Aside0 (k+g2=17)∧Aside0 (Below W5.heap.size W5 wq))
       case atStart=>exact ⟨0,rfl,⟨by omega⟩,⟨Below.refl _ _⟩⟩
       case round =>
        obtain ⟨k,rfl,HK,HW⟩:=hrel
        have HT6:=Aside0.mk (HT5.out.below HW.out)
        by_cases hkl:(k:Int) < ((m'.filterMap id).length:Int)
        ·
         obtain ⟨g3,rfl⟩:∃ q,gk=q+1:=⟨gk - 1,by have:=HK.out;have:=listM_le m';rw [listM_len,HT6.out.inv.len] at this;omega⟩
         obtain ⟨ad5,hA,z0,-⟩:=at_T33 (Kd.C_below HL5.out HW.out) (k:Int) (by omega) hkl
         subst hA
         rw [Int.toNat_natCast] at z0
         obtain ⟨j,j1,j15,hj,hbj⟩:=there_get HT6.out.inv k (by omega)
         have hc:=ban_cell (blk_below HB5.out HW.out) j (by have:=HT6.out.inv.lb;omega)
         rw [hbj] at hc
         rw [hj] at z0
         have hj1:((j:Int) < 1)=False:=eq_false (by omega)
         have hj2:((15:Int) < (j:Int))=False:=eq_false (by omega)
         have hj3:(j:Int) < 16:=by omega
         have hk17:k < 17:=by have:=HK.out;omega
         by_cases hk0:(0:Int) < (k:Int)
         ·
          obtain ⟨k',hk'⟩:∃ q,q+1=k:=⟨k - 1,by omega⟩
          obtain ⟨ad6,hA,y0,-⟩:=at_T33 (Kd.C_below HL5.out HW.out) (k':Int) (by omega) (by omega)
          obtain rfl:=Option.some.inj hA
          rw [Int.toNat_natCast] at y0
          have hr:=there_rise HT6.out.inv k' (by omega)
          rw [hk',hj] at hr
          generalize (rd_T33 (m'.filterMap id) (k':Int)).f0=u at y0 hr
          have hr2:((j:Int)≤u)=False:=eq_false (by omega)
          have hsub:IntKind.i64.wrap ((k:Int) - 1)=(k':Int):=by
           rw [show (k:Int) - 1=(k':Int) by omega]
           exact IntWalk.i64_in _ (by have:=HK.out;omega)
          have hkn:(0 < k)=True:=eq_true (by omega)
          have hk1':(k':Int) < ((m'.filterMap id).length:Int):=by omega
          clear hA hj hbj hr hk'
          go_wp2_with fail
          go_quiet (fail)
          go_wp2_with fail
          go_roundg g3
          case measure=>omega
          case rel=>exact ⟨k+1,by go_num,⟨by have:=HK.out;omega⟩,⟨pw_below_drewN HW.out nq⟩⟩
         ·
          have hkn:(0 < k)=False:=eq_false (by omega)
          clear hj hbj
          go_wp2_with fail
          go_quiet (fail)
          go_wp2_with fail
          go_roundg g3
          case measure=>omega
          case rel=>exact ⟨k+1,by go_num,⟨by have:=HK.out;omega⟩,⟨pw_below_drewN HW.out nq⟩⟩
        ·
         have hroom:¬ room < ((m'.filterMap id).length:Int):=by have:=HC3.out;omega
         go_wp2_with fail
         go_roundg gg
         case measure=>omega
         case rel=>exact ⟨i+1,m',bs',by go_num,⟨by have:=HG.out;omega⟩,⟨HT6.out,HC3.out⟩,⟨blk_below HB5.out HW.out⟩⟩
    ·
     go_wp2
     go_ret
     exact ⟨rfl,HT.out.1.bel⟩
   ·
    go_wp2
    go_ret
    exact ⟨rfl,HT.out.1.bel⟩
 ·
  have HNN:=Aside0.mk htm
  by_cases h0:room < 1
  rotate_left
  by_cases h1:15 < room
  rotate_left
  by_cases h2:tmo < 1
  rotate_left
  have h3:1099511627776 < tmo:=by omega
  all_goals
   clear htm
   go_enter Try.func5,Try.ntmps5
   go_wp2_with fail
   refine (Print.new_no room tmo w HNN.out).mono ?_
   rintro e W1 ⟨rfl,hb1⟩
   have HB1:=Aside0.mk hb1
   clear hb1
   go_wp2_with fail
   refine (awake18 _).mono ?_
   rintro e W2 ⟨rfl,hb⟩
   have HB2:=Aside0.mk (below_step HB1.out hb)
   clear hb HB1
   go_wp2_with fail
   refine (awake18 _).mono ?_
   rintro e W3 ⟨rfl,hb⟩
   have HB3:=Aside0.mk (below_step HB2.out hb)
   clear hb HB2
   go_wp2_with fail
   go_ret
   exact ⟨rfl,HB3.out⟩
end Go.Proofs.Ytpejjpecdkbleaa.Print
/-! #### Pr25 -/
namespace Go.Proofs.Ytpejjpecdkbleaa.Print
open Go.RowKit Go.Proofs.YtpejjpecdkbleaaW.PrintWords Go.Proofs.YtpejjpecdkbleaaW.PrintLast Go.Proofs.YtpejjpecdkbleaaW.PrintMore
attribute [local go_sem] max2_int min2_int max_two min_two max_three min_three max_four min_four
set_option linter.unusedVariables false
set_option linter.unusedSimpArgs false
/-! ### mosaiclaw18_Ref: function 25 -/
def mosaiclaw18_Ref.f (a0_0:Int) (a0_1:Int) (a0_2:Int) (a0_3:ByteArray) (a0_4:Bool) (a0_5:Bool) (a0_6:Bool) (a0_7:Int) (a0_8:Int) (a0_9:Int):Option (Int×Int×Int×ByteArray×Bool×Bool×Bool×Int×Int×Int):=(mosaiclaw17_Ref.f a0_1 a0_2).bind fun bt3=>(some (a0_0,bt3.1,bt3.2,a0_3,a0_4,a0_5,a0_6,a0_7,a0_8,a0_9))
def mosaiclaw18_Ref.T1:Bool×List (List Nat×List Nat):=(true,[([],[]),([0],[0]),([],[]),([2],[2]),([3],[3]),([],[]),([5],[5]),([],[]),([7],[7]),([],[]),([9],[9]),([],[]),([11],[11]),([],[]),([13],[13]),([],[]),([15],[15]),([],[]),([17],[17]),([1,4,6,8,10,12,14,16,18],[1,4,6,8,10,12,14,16,18]),([19,4,0,1,2,3,4,5,6,7,8,9,10,11,12,13,14,15,16,17,18,19],[19])])
def mosaiclaw18_Ref.B1:List Nat:=[0,1,0,4,12,0,32,0,128,0,512,0,2048,0,8192,0,32768,0,131072,524287,1048575]
theorem mosaiclaw18_Ref.tab1:rtab .any (opsOf Try.f25 1)=mosaiclaw18_Ref.T1:=by kernel_rfl
theorem mosaiclaw18_Ref.bits1:waitsOk mosaiclaw18_Ref.T1.2 mosaiclaw18_Ref.B1=true:=by kernel_rfl
set_option maxHeartbeats 8000000 in
set_option maxRecDepth 100000 in
theorem mosaiclaw18_Ref.calls (a0_0:Int) (a0_1:Int) (a0_2:Int) (a0_3:ByteArray) (a0_4:Bool) (a0_5:Bool) (a0_6:Bool) (a0_7:Int) (a0_8:Int) (a0_9:Int) (r1:Int) (r2:Int) (r3:Int) (r4:ByteArray) (r5:Bool) (r6:Bool) (r7:Bool) (r8:Int) (r9:Int) (r10:Int) (w:World) (h:mosaiclaw18_Ref.f a0_0 a0_1 a0_2 a0_3 a0_4 a0_5 a0_6 a0_7 a0_8 a0_9=some (r1,r2,r3,r4,r5,r6,r7,r8,r9,r10)) :
  Calls Try.prog 25 #[.agg #[.int .i64 a0_0,.int .i64 a0_1,.int .i64 a0_2,.string a0_3,.bool a0_4,.bool a0_5,.bool a0_6,.int .i64 a0_7,.int .i64 a0_8,.int .i64 a0_9]] w fun e w'=>e=.returned (.agg #[.int .i64 r1,.int .i64 r2,.int .i64 r3,.string r4,.bool r5,.bool r6,.bool r7,.int .i64 r8,.int .i64 r9,.int .i64 r10])∧Below w.heap.size w w':=by
 have hu33:=Try.underlying33
 have hu56:=Try.underlying56
 have hu30:=Try.underlying30
 have HB:=Aside0.mk (Below.refl w.heap.size w)
 have H:((mosaiclaw17_Ref.f a0_1 a0_2).bind fun bt3=>(some (a0_0,bt3.1,bt3.2,a0_3,a0_4,a0_5,a0_6,a0_7,a0_8,a0_9)))=some (r1,r2,r3,r4,r5,r6,r7,r8,r9,r10):=h
 clear h
 replace H:=Option.bind_eq_some_iff.mp H
 obtain ⟨⟨t3,t4⟩,A20,H⟩:=H
 replace H:(some (a0_0,t3,t4,a0_3,a0_4,a0_5,a0_6,a0_7,a0_8,a0_9))=some (r1,r2,r3,r4,r5,r6,r7,r8,r9,r10):=H
 have A2:=Aside0.mk A20
 clear A20
 simp only [Option.some.injEq,Prod.mk.injEq] at H
 obtain ⟨rfl,rfl,rfl,rfl,rfl,rfl,rfl,rfl,rfl,rfl⟩:=H
 go_enter Try.func25,Try.ntmps25
 try go_wp2_with (first|((with_reducible refine gate_dst (N:=1) rfl ?_);refine box_event ?hg (N:=1) ?hd (cs:=#[.int .i64 a0_0,.int .i64 a0_1,.int .i64 a0_2,.string a0_3,.bool a0_4,.bool a0_5,.bool a0_6,.int .i64 a0_7,.int .i64 a0_8,.int .i64 a0_9]) (t:=33) ?hr ?_;(case hd=>rfl);(case hg=>rfl);(case hr=>first|(go_simp;done)|(go_simp;rfl));intro gb1 hg w3 hbox hb;have n0_:=Aside0.mk (below_step (by repeat (first|(with_reducible first|exact HB.out|apply below_alloc|apply pw_below_drewN|apply below_drew1)|exact HB.out)) hb);have n1_:=Aside0.mk (hbox);have n2_:=Aside0.mk ((by rw [hg];exact (below_size (by repeat (first|(with_reducible first|exact HB.out|apply below_alloc|apply pw_below_drewN|apply below_drew1)|exact HB.out))):w.heap.size≤gb1));have n3_:=Aside0.mk ((by rw [hg];exact (below_size (by repeat (first|(with_reducible first|exact HB.out|apply below_alloc|apply pw_below_drewN|apply below_drew1)|exact HB.out))):w.heap.size≤gb1));clear HB;have HB:=n0_;have BK1:=n1_;have GW1:=n2_;have GE1:=n3_;clear n0_ n1_ n2_ n3_;clear hb hbox hg)|((with_reducible refine gate_dst (N:=2) rfl ?_);refine box_event ?hg (N:=2) ?hd (cs:=#[.int .i64 0,.int .i64 0,.int .i64 0,.string (⟨#[]⟩:ByteArray),.bool false,.bool false,.bool false,.int .i64 0,.int .i64 0,.int .i64 0]) (t:=56) ?hr ?_;(case hd=>rfl);(case hg=>rfl);(case hr=>first|(go_simp;done)|(go_simp;rfl));intro gb2 hg w4 hbox hb;have n0_:=Aside0.mk (blk_below (g:=gb1) (o:=.cells #[.int .i64 a0_0,.int .i64 a0_1,.int .i64 a0_2,.string a0_3,.bool a0_4,.bool a0_5,.bool a0_6,.int .i64 a0_7,.int .i64 a0_8,.int .i64 a0_9] 33 (0,0)) (by (with_reducible repeat (first|refine blk_drewN ?_ _|refine blk_drew ?_|refine blk_alloc ?_ _));exact BK1.out) hb);have n1_:=Aside0.mk (below_step (by repeat (first|(with_reducible first|exact HB.out|apply below_alloc|apply pw_below_drewN|apply below_drew1|refine below_set ?_ GE1.out)|exact HB.out)) hb);have n2_:=Aside0.mk (hbox);have n3_:=Aside0.mk ((by rw [hg];exact (below_size (by repeat (first|(with_reducible first|exact HB.out|apply below_alloc|apply pw_below_drewN|apply below_drew1|refine below_set ?_ GE1.out)|exact HB.out))):w.heap.size≤gb2));have n4_:=Aside0.mk ((by rw [hg];exact (below_size (by repeat (first|(with_reducible first|exact HB.out|apply below_alloc|apply pw_below_drewN|apply below_drew1|refine below_set ?_ GE1.out)|exact HB.out))):w.heap.size≤gb2));have n5_:=Aside0.mk ((by rw [hg];exact Nat.ne_of_lt (blk_lt (g:=gb1) (o:=.cells #[.int .i64 a0_0,.int .i64 a0_1,.int .i64 a0_2,.string a0_3,.bool a0_4,.bool a0_5,.bool a0_6,.int .i64 a0_7,.int .i64 a0_8,.int .i64 a0_9] 33 (0,0)) (by (with_reducible repeat (first|refine blk_drewN ?_ _|refine blk_drew ?_|refine blk_alloc ?_ _));exact BK1.out)):gb1≠gb2));have n6_:=Aside0.mk ((by rw [hg];exact Nat.ne_of_gt (blk_lt (g:=gb1) (o:=.cells #[.int .i64 a0_0,.int .i64 a0_1,.int .i64 a0_2,.string a0_3,.bool a0_4,.bool a0_5,.bool a0_6,.int .i64 a0_7,.int .i64 a0_8,.int .i64 a0_9] 33 (0,0)) (by (with_reducible repeat (first|refine blk_drewN ?_ _|refine blk_drew ?_|refine blk_alloc ?_ _));exact BK1.out)):gb2≠gb1));clear BK1;clear HB;have BK1:=n0_;have HB:=n1_;have BK2:=n2_;have GW2:=n3_;have GE2:=n4_;have NB1_2:=n5_;have NB2_1:=n6_;clear n0_ n1_ n2_ n3_ n4_ n5_ n6_;clear hb hbox hg))
 have n0_:=Aside0.mk (blk_drew BK1.out)
 have n1_:=Aside0.mk (blk_drew BK2.out)
 have n2_:=Aside0.mk (below_drew1 HB.out)
 clear BK1
 clear BK2
 clear HB
 have BK1:=n0_
 have BK2:=n1_
 have HB:=n2_
 clear n0_ n1_ n2_
 refine start_ (n:=21) (S:=fun w'=>w'.cell? ⟨gb1,0,none⟩=some (.int .i64 a0_0)∧w'.cell? ⟨gb1,1,none⟩=some (.int .i64 a0_1)∧w'.cell? ⟨gb1,2,none⟩=some (.int .i64 a0_2)∧w'.cell? ⟨gb1,3,none⟩=some (.string a0_3)∧w'.cell? ⟨gb1,4,none⟩=some (.bool a0_4)∧w'.cell? ⟨gb1,5,none⟩=some (.bool a0_5)∧w'.cell? ⟨gb1,6,none⟩=some (.bool a0_6)∧w'.cell? ⟨gb1,7,none⟩=some (.int .i64 a0_7)∧w'.cell? ⟨gb1,8,none⟩=some (.int .i64 a0_8)∧w'.cell? ⟨gb1,9,none⟩=some (.int .i64 a0_9)) (ds:=[]) #[false,false,false,false,false,false,false,false,false,false,false,false,false,false,false,false,false,false,false,false,false] (by kernel_rfl) rfl rfl ⟨(blk_cell BK1.out 0).trans rfl,(blk_cell BK1.out 1).trans rfl,(blk_cell BK1.out 2).trans rfl,(blk_cell BK1.out 3).trans rfl,(blk_cell BK1.out 4).trans rfl,(blk_cell BK1.out 5).trans rfl,(blk_cell BK1.out 6).trans rfl,(blk_cell BK1.out 7).trans rfl,(blk_cell BK1.out 8).trans rfl,(blk_cell BK1.out 9).trans rfl⟩ (fun hHeld=>?_);refine with_tabW mosaiclaw18_Ref.tab1 mosaiclaw18_Ref.bits1 (fun HT_ HW_=>?_)
 generalize w4.drew=w5 at BK1 BK2 HB hHeld ⊢
 refine pure_ (i:=0) (N:=some 3) (v:=?_) (a':=?_) #[true,false,false,false,false,false,false,false,false,false,false,false,false,false,false,false,false,false,false,false,false] rfl rfl (any_of HT_.out (by kernel_rfl)) (fun _ _ _ h=>h) (Or.inl ⟨by rfl,?_⟩) ?_ ?_
 rotate_left
 ·
  intro w'
  go_simp
  with_reducible rfl
 rotate_left
 ·
  simp only [Act.put,List.setIfInBounds_toArray,List.set_cons_zero,List.set_cons_succ,i64_w,i32_w]
  rfl
 refine pure_ (i:=2) (N:=some 5) (v:=?_) (a':=?_) #[true,false,true,false,false,false,false,false,false,false,false,false,false,false,false,false,false,false,false,false,false] rfl rfl (any_of HT_.out (by kernel_rfl)) (fun _ _ _ h=>h) (Or.inl ⟨by rfl,?_⟩) ?_ ?_
 rotate_left
 ·
  intro w'
  go_simp
  with_reducible rfl
 rotate_left
 ·
  simp only [Act.put,List.setIfInBounds_toArray,List.set_cons_zero,List.set_cons_succ,i64_w,i32_w]
  rfl
 refine pure_ (i:=5) (N:=some 8) (v:=?_) (a':=?_) #[true,false,true,false,false,true,false,false,false,false,false,false,false,false,false,false,false,false,false,false,false] rfl rfl (any_of HT_.out (by kernel_rfl)) (fun _ _ _ h=>h) (Or.inl ⟨by rfl,?_⟩) ?_ ?_
 rotate_left
 ·
  intro w'
  go_simp
  with_reducible rfl
 rotate_left
 ·
  simp only [Act.put,List.setIfInBounds_toArray,List.set_cons_zero,List.set_cons_succ,i64_w,i32_w]
  rfl
 refine pure_ (i:=7) (N:=some 10) (v:=?_) (a':=?_) #[true,false,true,false,false,true,false,true,false,false,false,false,false,false,false,false,false,false,false,false,false] rfl rfl (any_of HT_.out (by kernel_rfl)) (fun _ _ _ h=>h) (Or.inl ⟨by rfl,?_⟩) ?_ ?_
 rotate_left
 ·
  intro w'
  go_simp
  with_reducible rfl
 rotate_left
 ·
  simp only [Act.put,List.setIfInBounds_toArray,List.set_cons_zero,List.set_cons_succ,i64_w,i32_w]
  rfl
 refine pure_ (i:=9) (N:=some 12) (v:=?_) (a':=?_) #[true,false,true,false,false,true,false,true,false,true,false,false,false,false,false,false,false,false,false,false,false] rfl rfl (any_of HT_.out (by kernel_rfl)) (fun _ _ _ h=>h) (Or.inl ⟨by rfl,?_⟩) ?_ ?_
 rotate_left
 ·
  intro w'
  go_simp
  with_reducible rfl
 rotate_left
 ·
  simp only [Act.put,List.setIfInBounds_toArray,List.set_cons_zero,List.set_cons_succ,i64_w,i32_w]
  rfl
 refine pure_ (i:=11) (N:=some 14) (v:=?_) (a':=?_) #[true,false,true,false,false,true,false,true,false,true,false,true,false,false,false,false,false,false,false,false,false] rfl rfl (any_of HT_.out (by kernel_rfl)) (fun _ _ _ h=>h) (Or.inl ⟨by rfl,?_⟩) ?_ ?_
 rotate_left
 ·
  intro w'
  go_simp
  with_reducible rfl
 rotate_left
 ·
  simp only [Act.put,List.setIfInBounds_toArray,List.set_cons_zero,List.set_cons_succ,i64_w,i32_w]
  rfl
 refine pure_ (i:=13) (N:=some 16) (v:=?_) (a':=?_) #[true,false,true,false,false,true,false,true,false,true,false,true,false,true,false,false,false,false,false,false,false] rfl rfl (any_of HT_.out (by kernel_rfl)) (fun _ _ _ h=>h) (Or.inl ⟨by rfl,?_⟩) ?_ ?_
 rotate_left
 ·
  intro w'
  go_simp
  with_reducible rfl
 rotate_left
 ·
  simp only [Act.put,List.setIfInBounds_toArray,List.set_cons_zero,List.set_cons_succ,i64_w,i32_w]
  rfl
 refine pure_ (i:=15) (N:=some 18) (v:=?_) (a':=?_) #[true,false,true,false,false,true,false,true,false,true,false,true,false,true,false,true,false,false,false,false,false] rfl rfl (any_of HT_.out (by kernel_rfl)) (fun _ _ _ h=>h) (Or.inl ⟨by rfl,?_⟩) ?_ ?_
 rotate_left
 ·
  intro w'
  go_simp
  with_reducible rfl
 rotate_left
 ·
  simp only [Act.put,List.setIfInBounds_toArray,List.set_cons_zero,List.set_cons_succ,i64_w,i32_w]
  rfl
 refine pure_ (i:=17) (N:=some 20) (v:=?_) (a':=?_) #[true,false,true,false,false,true,false,true,false,true,false,true,false,true,false,true,false,true,false,false,false] rfl rfl (any_of HT_.out (by kernel_rfl)) (fun _ _ _ h=>h) (Or.inl ⟨by rfl,?_⟩) ?_ ?_
 rotate_left
 ·
  intro w'
  go_simp
  with_reducible rfl
 rotate_left
 ·
  simp only [Act.put,List.setIfInBounds_toArray,List.set_cons_zero,List.set_cons_succ,i64_w,i32_w]
  rfl
 refine take_ (i:=1) (N:=some 4) (v:=?_) (a':=?_) #[true,true,true,false,false,true,false,true,false,true,false,true,false,true,false,true,false,true,false,false,false] rfl rfl (take_ofW HT_.out HW_.out (by kernel_rfl)) (fun _ _ _ h=>h) (Or.inl ⟨by rfl,?_⟩) hHeld ?_ ?_
 rotate_left
 ·
  rintro w' ⟨s0,s1,s2,s3,s4,s5,s6,s7,s8,s9⟩
  go_simp
  with_reducible rfl
 rotate_left
 ·
  simp only [Act.put,List.setIfInBounds_toArray,List.set_cons_zero,List.set_cons_succ,i64_w,i32_w]
  rfl
 refine take_ (i:=3) (N:=some 6) (v:=?_) (a':=?_) #[true,true,true,true,false,true,false,true,false,true,false,true,false,true,false,true,false,true,false,false,false] rfl rfl (take_ofW HT_.out HW_.out (by kernel_rfl)) (fun _ _ _ h=>h) (Or.inl ⟨by rfl,?_⟩) hHeld ?_ ?_
 rotate_left
 ·
  rintro w' ⟨s0,s1,s2,s3,s4,s5,s6,s7,s8,s9⟩
  go_simp
  with_reducible rfl
 rotate_left
 ·
  simp only [Act.put,List.setIfInBounds_toArray,List.set_cons_zero,List.set_cons_succ,i64_w,i32_w]
  rfl
 refine take_ (i:=6) (N:=some 9) (v:=?_) (a':=?_) #[true,true,true,true,false,true,true,true,false,true,false,true,false,true,false,true,false,true,false,false,false] rfl rfl (take_ofW HT_.out HW_.out (by kernel_rfl)) (fun _ _ _ h=>h) (Or.inl ⟨by rfl,?_⟩) hHeld ?_ ?_
 rotate_left
 ·
  rintro w' ⟨s0,s1,s2,s3,s4,s5,s6,s7,s8,s9⟩
  go_simp
  with_reducible rfl
 rotate_left
 ·
  simp only [Act.put,List.setIfInBounds_toArray,List.set_cons_zero,List.set_cons_succ,i64_w,i32_w]
  rfl
 refine take_ (i:=8) (N:=some 11) (v:=?_) (a':=?_) #[true,true,true,true,false,true,true,true,true,true,false,true,false,true,false,true,false,true,false,false,false] rfl rfl (take_ofW HT_.out HW_.out (by kernel_rfl)) (fun _ _ _ h=>h) (Or.inl ⟨by rfl,?_⟩) hHeld ?_ ?_
 rotate_left
 ·
  rintro w' ⟨s0,s1,s2,s3,s4,s5,s6,s7,s8,s9⟩
  go_simp
  with_reducible rfl
 rotate_left
 ·
  simp only [Act.put,List.setIfInBounds_toArray,List.set_cons_zero,List.set_cons_succ,i64_w,i32_w]
  rfl
 refine take_ (i:=10) (N:=some 13) (v:=?_) (a':=?_) #[true,true,true,true,false,true,true,true,true,true,true,true,false,true,false,true,false,true,false,false,false] rfl rfl (take_ofW HT_.out HW_.out (by kernel_rfl)) (fun _ _ _ h=>h) (Or.inl ⟨by rfl,?_⟩) hHeld ?_ ?_
 rotate_left
 ·
  rintro w' ⟨s0,s1,s2,s3,s4,s5,s6,s7,s8,s9⟩
  go_simp
  with_reducible rfl
 rotate_left
 ·
  simp only [Act.put,List.setIfInBounds_toArray,List.set_cons_zero,List.set_cons_succ,i64_w,i32_w]
  rfl
 refine take_ (i:=12) (N:=some 15) (v:=?_) (a':=?_) #[true,true,true,true,false,true,true,true,true,true,true,true,true,true,false,true,false,true,false,false,false] rfl rfl (take_ofW HT_.out HW_.out (by kernel_rfl)) (fun _ _ _ h=>h) (Or.inl ⟨by rfl,?_⟩) hHeld ?_ ?_
 rotate_left
 ·
  rintro w' ⟨s0,s1,s2,s3,s4,s5,s6,s7,s8,s9⟩
  go_simp
  with_reducible rfl
 rotate_left
 ·
  simp only [Act.put,List.setIfInBounds_toArray,List.set_cons_zero,List.set_cons_succ,i64_w,i32_w]
  rfl
 refine take_ (i:=14) (N:=some 17) (v:=?_) (a':=?_) #[true,true,true,true,false,true,true,true,true,true,true,true,true,true,true,true,false,true,false,false,false] rfl rfl (take_ofW HT_.out HW_.out (by kernel_rfl)) (fun _ _ _ h=>h) (Or.inl ⟨by rfl,?_⟩) hHeld ?_ ?_
 rotate_left
 ·
  rintro w' ⟨s0,s1,s2,s3,s4,s5,s6,s7,s8,s9⟩
  go_simp
  with_reducible rfl
 rotate_left
 ·
  simp only [Act.put,List.setIfInBounds_toArray,List.set_cons_zero,List.set_cons_succ,i64_w,i32_w]
  rfl
 refine take_ (i:=16) (N:=some 19) (v:=?_) (a':=?_) #[true,true,true,true,false,true,true,true,true,true,true,true,true,true,true,true,true,true,false,false,false] rfl rfl (take_ofW HT_.out HW_.out (by kernel_rfl)) (fun _ _ _ h=>h) (Or.inl ⟨by rfl,?_⟩) hHeld ?_ ?_
 rotate_left
 ·
  rintro w' ⟨s0,s1,s2,s3,s4,s5,s6,s7,s8,s9⟩
  go_simp
  with_reducible rfl
 rotate_left
 ·
  simp only [Act.put,List.setIfInBounds_toArray,List.set_cons_zero,List.set_cons_succ,i64_w,i32_w]
  rfl
 refine take_ (i:=18) (N:=some 21) (v:=?_) (a':=?_) #[true,true,true,true,false,true,true,true,true,true,true,true,true,true,true,true,true,true,true,false,false] rfl rfl (take_ofW HT_.out HW_.out (by kernel_rfl)) (fun _ _ _ h=>h) (Or.inl ⟨by rfl,?_⟩) hHeld ?_ ?_
 rotate_left
 ·
  rintro w' ⟨s0,s1,s2,s3,s4,s5,s6,s7,s8,s9⟩
  go_simp
  with_reducible rfl
 rotate_left
 ·
  simp only [Act.put,List.setIfInBounds_toArray,List.set_cons_zero,List.set_cons_succ,i64_w,i32_w]
  rfl
 refine one_ (i:=4) (N:=some 7) #[true,true,true,true,true,true,true,true,true,true,true,true,true,true,true,true,true,true,true,false,false] rfl rfl (one_of HT_.out (by kernel_rfl)) (by decide) (fun K hK=>?_)
 refine goes_ Try.func38 (by kernel_rfl) rfl #[.agg #[.int .i64 a0_1,.int .i64 a0_2]] (by rfl) rfl rfl (by (try simp only [List.map_toArray,List.map_cons,List.map_nil]);first|done|rfl|(simp only [List.length_drop,List.length_take];rfl)) ?_
 with_reducible refine (mosaiclaw17_Ref.calls a0_1 a0_2 t3 t4 _ A2.out).mono ?_
 rintro e w6 ⟨rfl,hb⟩
 refine ⟨_,rfl,?_⟩
 have n0_:=Aside0.mk (blk_below (g:=gb1) (o:=.cells #[.int .i64 a0_0,.int .i64 a0_1,.int .i64 a0_2,.string a0_3,.bool a0_4,.bool a0_5,.bool a0_6,.int .i64 a0_7,.int .i64 a0_8,.int .i64 a0_9] 33 (0,0)) (by (with_reducible repeat (first|refine blk_drewN ?_ _|refine blk_drew ?_|refine blk_alloc ?_ _));exact BK1.out) hb)
 have n1_:=Aside0.mk (blk_below (g:=gb2) (o:=.cells #[.int .i64 0,.int .i64 0,.int .i64 0,.string (⟨#[]⟩:ByteArray),.bool false,.bool false,.bool false,.int .i64 0,.int .i64 0,.int .i64 0] 56 (0,0)) (by (with_reducible repeat (first|refine blk_drewN ?_ _|refine blk_drew ?_|refine blk_alloc ?_ _));exact BK2.out) hb)
 have n2_:=Aside0.mk (below_step (by repeat (first|(with_reducible first|exact HB.out|apply below_alloc|apply pw_below_drewN|apply below_drew1|refine below_set ?_ GE1.out|refine below_set ?_ GE2.out)|exact HB.out)) hb)
 clear BK1
 clear BK2
 clear HB
 have BK1:=n0_
 have BK2:=n1_
 have HB:=n2_
 clear n0_ n1_ n2_
 (try clear hb)
 (try clear hb2)
 (try clear hk)
 (try clear hi)
 refine hK.out _ _ ⟨(blk_cell BK1.out 0).trans rfl,(blk_cell BK1.out 1).trans rfl,(blk_cell BK1.out 2).trans rfl,(blk_cell BK1.out 3).trans rfl,(blk_cell BK1.out 4).trans rfl,(blk_cell BK1.out 5).trans rfl,(blk_cell BK1.out 6).trans rfl,(blk_cell BK1.out 7).trans rfl,(blk_cell BK1.out 8).trans rfl,(blk_cell BK1.out 9).trans rfl⟩ (fun hHeld=>?_)
 clear hK K
 refine norm_ (a':=?_) ?_ ?_
 rotate_left
 ·
  show Act.put _ (some 7) _=_
  simp only [Act.put,List.setIfInBounds_toArray,List.set_cons_zero,List.set_cons_succ,i64_w,i32_w]
  rfl
 refine pure_ (i:=19) (N:=some 22) (v:=?_) (a':=?_) #[true,true,true,true,true,true,true,true,true,true,true,true,true,true,true,true,true,true,true,true,false] rfl rfl (any_of HT_.out (by kernel_rfl)) (fun _ _ _ h=>h) (Or.inl ⟨by rfl,?_⟩) ?_ ?_
 rotate_left
 ·
  intro w'
  go_simp
  with_reducible rfl
 rotate_left
 ·
  simp only [Act.put,List.setIfInBounds_toArray,List.set_cons_zero,List.set_cons_succ,i64_w,i32_w]
  rfl
 refine one_ (i:=20) (N:=none) #[true,true,true,true,true,true,true,true,true,true,true,true,true,true,true,true,true,true,true,true,true] rfl rfl (one_of HT_.out (by kernel_rfl)) (by decide) (fun K hK=>?_)
 have hs7:w6.cell? ⟨gb2,0,none⟩=some (.int .i64 0):=(blk_cell BK2.out 0).trans rfl
 have hfs7:=blk_frozen BK2.out 0
 have hns7_0:=NB1_2.out
 have hms7_0:=NB2_1.out
 have hs8:w6.cell? ⟨gb2,1,none⟩=some (.int .i64 0):=(blk_cell BK2.out 1).trans rfl
 have hfs8:=blk_frozen BK2.out 1
 have hns8_0:=NB1_2.out
 have hms8_0:=NB2_1.out
 have hs9:w6.cell? ⟨gb2,2,none⟩=some (.int .i64 0):=(blk_cell BK2.out 2).trans rfl
 have hfs9:=blk_frozen BK2.out 2
 have hns9_0:=NB1_2.out
 have hms9_0:=NB2_1.out
 have hs10:w6.cell? ⟨gb2,3,none⟩=some (.string (⟨#[]⟩:ByteArray)):=(blk_cell BK2.out 3).trans rfl
 have hfs10:=blk_frozen BK2.out 3
 have hns10_0:=NB1_2.out
 have hms10_0:=NB2_1.out
 have hs11:w6.cell? ⟨gb2,4,none⟩=some (.bool false):=(blk_cell BK2.out 4).trans rfl
 have hfs11:=blk_frozen BK2.out 4
 have hns11_0:=NB1_2.out
 have hms11_0:=NB2_1.out
 have hs12:w6.cell? ⟨gb2,5,none⟩=some (.bool false):=(blk_cell BK2.out 5).trans rfl
 have hfs12:=blk_frozen BK2.out 5
 have hns12_0:=NB1_2.out
 have hms12_0:=NB2_1.out
 have hs13:w6.cell? ⟨gb2,6,none⟩=some (.bool false):=(blk_cell BK2.out 6).trans rfl
 have hfs13:=blk_frozen BK2.out 6
 have hns13_0:=NB1_2.out
 have hms13_0:=NB2_1.out
 have hs14:w6.cell? ⟨gb2,7,none⟩=some (.int .i64 0):=(blk_cell BK2.out 7).trans rfl
 have hfs14:=blk_frozen BK2.out 7
 have hns14_0:=NB1_2.out
 have hms14_0:=NB2_1.out
 have hs15:w6.cell? ⟨gb2,8,none⟩=some (.int .i64 0):=(blk_cell BK2.out 8).trans rfl
 have hfs15:=blk_frozen BK2.out 8
 have hns15_0:=NB1_2.out
 have hms15_0:=NB2_1.out
 have hs16:w6.cell? ⟨gb2,9,none⟩=some (.int .i64 0):=(blk_cell BK2.out 9).trans rfl
 have hfs16:=blk_frozen BK2.out 9
 have hns16_0:=NB1_2.out
 have hms16_0:=NB2_1.out
 refine skip_ (w1:=?_) (by rfl) rfl ?_ ?_
 rotate_left
 ·
  go_simp
  rfl
 refine hK.out _ _ ⟨((cell_far (p:=⟨gb2,_,none⟩) NB1_2.out _).trans (((cell_far (p:=⟨gb2,_,none⟩) NB1_2.out _).trans (((cell_far (p:=⟨gb2,_,none⟩) NB1_2.out _).trans (((cell_far (p:=⟨gb2,_,none⟩) NB1_2.out _).trans (((cell_far (p:=⟨gb2,_,none⟩) NB1_2.out _).trans (((cell_far (p:=⟨gb2,_,none⟩) NB1_2.out _).trans (((cell_far (p:=⟨gb2,_,none⟩) NB1_2.out _).trans (((cell_far (p:=⟨gb2,_,none⟩) NB1_2.out _).trans (((cell_far (p:=⟨gb2,_,none⟩) NB1_2.out _).trans (((cell_far (p:=⟨gb2,_,none⟩) NB1_2.out _).trans (hHeld.1)))))))))))))))))))),((cell_far (p:=⟨gb2,_,none⟩) NB1_2.out _).trans (((cell_far (p:=⟨gb2,_,none⟩) NB1_2.out _).trans (((cell_far (p:=⟨gb2,_,none⟩) NB1_2.out _).trans (((cell_far (p:=⟨gb2,_,none⟩) NB1_2.out _).trans (((cell_far (p:=⟨gb2,_,none⟩) NB1_2.out _).trans (((cell_far (p:=⟨gb2,_,none⟩) NB1_2.out _).trans (((cell_far (p:=⟨gb2,_,none⟩) NB1_2.out _).trans (((cell_far (p:=⟨gb2,_,none⟩) NB1_2.out _).trans (((cell_far (p:=⟨gb2,_,none⟩) NB1_2.out _).trans (((cell_far (p:=⟨gb2,_,none⟩) NB1_2.out _).trans (hHeld.2.1)))))))))))))))))))),((cell_far (p:=⟨gb2,_,none⟩) NB1_2.out _).trans (((cell_far (p:=⟨gb2,_,none⟩) NB1_2.out _).trans (((cell_far (p:=⟨gb2,_,none⟩) NB1_2.out _).trans (((cell_far (p:=⟨gb2,_,none⟩) NB1_2.out _).trans (((cell_far (p:=⟨gb2,_,none⟩) NB1_2.out _).trans (((cell_far (p:=⟨gb2,_,none⟩) NB1_2.out _).trans (((cell_far (p:=⟨gb2,_,none⟩) NB1_2.out _).trans (((cell_far (p:=⟨gb2,_,none⟩) NB1_2.out _).trans (((cell_far (p:=⟨gb2,_,none⟩) NB1_2.out _).trans (((cell_far (p:=⟨gb2,_,none⟩) NB1_2.out _).trans (hHeld.2.2.1)))))))))))))))))))),((cell_far (p:=⟨gb2,_,none⟩) NB1_2.out _).trans (((cell_far (p:=⟨gb2,_,none⟩) NB1_2.out _).trans (((cell_far (p:=⟨gb2,_,none⟩) NB1_2.out _).trans (((cell_far (p:=⟨gb2,_,none⟩) NB1_2.out _).trans (((cell_far (p:=⟨gb2,_,none⟩) NB1_2.out _).trans (((cell_far (p:=⟨gb2,_,none⟩) NB1_2.out _).trans (((cell_far (p:=⟨gb2,_,none⟩) NB1_2.out _).trans (((cell_far (p:=⟨gb2,_,none⟩) NB1_2.out _).trans (((cell_far (p:=⟨gb2,_,none⟩) NB1_2.out _).trans (((cell_far (p:=⟨gb2,_,none⟩) NB1_2.out _).trans (hHeld.2.2.2.1)))))))))))))))))))),((cell_far (p:=⟨gb2,_,none⟩) NB1_2.out _).trans (((cell_far (p:=⟨gb2,_,none⟩) NB1_2.out _).trans (((cell_far (p:=⟨gb2,_,none⟩) NB1_2.out _).trans (((cell_far (p:=⟨gb2,_,none⟩) NB1_2.out _).trans (((cell_far (p:=⟨gb2,_,none⟩) NB1_2.out _).trans (((cell_far (p:=⟨gb2,_,none⟩) NB1_2.out _).trans (((cell_far (p:=⟨gb2,_,none⟩) NB1_2.out _).trans (((cell_far (p:=⟨gb2,_,none⟩) NB1_2.out _).trans (((cell_far (p:=⟨gb2,_,none⟩) NB1_2.out _).trans (((cell_far (p:=⟨gb2,_,none⟩) NB1_2.out _).trans (hHeld.2.2.2.2.1)))))))))))))))))))),((cell_far (p:=⟨gb2,_,none⟩) NB1_2.out _).trans (((cell_far (p:=⟨gb2,_,none⟩) NB1_2.out _).trans (((cell_far (p:=⟨gb2,_,none⟩) NB1_2.out _).trans (((cell_far (p:=⟨gb2,_,none⟩) NB1_2.out _).trans (((cell_far (p:=⟨gb2,_,none⟩) NB1_2.out _).trans (((cell_far (p:=⟨gb2,_,none⟩) NB1_2.out _).trans (((cell_far (p:=⟨gb2,_,none⟩) NB1_2.out _).trans (((cell_far (p:=⟨gb2,_,none⟩) NB1_2.out _).trans (((cell_far (p:=⟨gb2,_,none⟩) NB1_2.out _).trans (((cell_far (p:=⟨gb2,_,none⟩) NB1_2.out _).trans (hHeld.2.2.2.2.2.1)))))))))))))))))))),((cell_far (p:=⟨gb2,_,none⟩) NB1_2.out _).trans (((cell_far (p:=⟨gb2,_,none⟩) NB1_2.out _).trans (((cell_far (p:=⟨gb2,_,none⟩) NB1_2.out _).trans (((cell_far (p:=⟨gb2,_,none⟩) NB1_2.out _).trans (((cell_far (p:=⟨gb2,_,none⟩) NB1_2.out _).trans (((cell_far (p:=⟨gb2,_,none⟩) NB1_2.out _).trans (((cell_far (p:=⟨gb2,_,none⟩) NB1_2.out _).trans (((cell_far (p:=⟨gb2,_,none⟩) NB1_2.out _).trans (((cell_far (p:=⟨gb2,_,none⟩) NB1_2.out _).trans (((cell_far (p:=⟨gb2,_,none⟩) NB1_2.out _).trans (hHeld.2.2.2.2.2.2.1)))))))))))))))))))),((cell_far (p:=⟨gb2,_,none⟩) NB1_2.out _).trans (((cell_far (p:=⟨gb2,_,none⟩) NB1_2.out _).trans (((cell_far (p:=⟨gb2,_,none⟩) NB1_2.out _).trans (((cell_far (p:=⟨gb2,_,none⟩) NB1_2.out _).trans (((cell_far (p:=⟨gb2,_,none⟩) NB1_2.out _).trans (((cell_far (p:=⟨gb2,_,none⟩) NB1_2.out _).trans (((cell_far (p:=⟨gb2,_,none⟩) NB1_2.out _).trans (((cell_far (p:=⟨gb2,_,none⟩) NB1_2.out _).trans (((cell_far (p:=⟨gb2,_,none⟩) NB1_2.out _).trans (((cell_far (p:=⟨gb2,_,none⟩) NB1_2.out _).trans (hHeld.2.2.2.2.2.2.2.1)))))))))))))))))))),((cell_far (p:=⟨gb2,_,none⟩) NB1_2.out _).trans (((cell_far (p:=⟨gb2,_,none⟩) NB1_2.out _).trans (((cell_far (p:=⟨gb2,_,none⟩) NB1_2.out _).trans (((cell_far (p:=⟨gb2,_,none⟩) NB1_2.out _).trans (((cell_far (p:=⟨gb2,_,none⟩) NB1_2.out _).trans (((cell_far (p:=⟨gb2,_,none⟩) NB1_2.out _).trans (((cell_far (p:=⟨gb2,_,none⟩) NB1_2.out _).trans (((cell_far (p:=⟨gb2,_,none⟩) NB1_2.out _).trans (((cell_far (p:=⟨gb2,_,none⟩) NB1_2.out _).trans (((cell_far (p:=⟨gb2,_,none⟩) NB1_2.out _).trans (hHeld.2.2.2.2.2.2.2.2.1)))))))))))))))))))),((cell_far (p:=⟨gb2,_,none⟩) NB1_2.out _).trans (((cell_far (p:=⟨gb2,_,none⟩) NB1_2.out _).trans (((cell_far (p:=⟨gb2,_,none⟩) NB1_2.out _).trans (((cell_far (p:=⟨gb2,_,none⟩) NB1_2.out _).trans (((cell_far (p:=⟨gb2,_,none⟩) NB1_2.out _).trans (((cell_far (p:=⟨gb2,_,none⟩) NB1_2.out _).trans (((cell_far (p:=⟨gb2,_,none⟩) NB1_2.out _).trans (((cell_far (p:=⟨gb2,_,none⟩) NB1_2.out _).trans (((cell_far (p:=⟨gb2,_,none⟩) NB1_2.out _).trans (((cell_far (p:=⟨gb2,_,none⟩) NB1_2.out _).trans (hHeld.2.2.2.2.2.2.2.2.2))))))))))))))))))))⟩ (fun hHeld=>?_)
 clear hK K
 refine done_ (done_of HT_.out (by kernel_rfl)) ?_
 try go_wp2
 refine bodyPost_ret (results_cell_row rfl _ _ gb2 56 #[.int .i64 a0_0,.int .i64 t3,.int .i64 t4,.string a0_3,.bool a0_4,.bool a0_5,.bool a0_6,.int .i64 a0_7,.int .i64 a0_8,.int .i64 a0_9] (0,0) _ rfl (by (with_reducible repeat (first|refine blk_drewN ?_ _|refine blk_drew ?_|refine blk_alloc ?_ _));refine blk_put (cs:=#[.int .i64 a0_0,.int .i64 t3,.int .i64 t4,.string a0_3,.bool a0_4,.bool a0_5,.bool a0_6,.int .i64 a0_7,.int .i64 a0_8,.int .i64 0]) ?_ 9 _ rfl;(with_reducible repeat (first|refine blk_drewN ?_ _|refine blk_drew ?_|refine blk_alloc ?_ _));refine blk_put (cs:=#[.int .i64 a0_0,.int .i64 t3,.int .i64 t4,.string a0_3,.bool a0_4,.bool a0_5,.bool a0_6,.int .i64 a0_7,.int .i64 0,.int .i64 0]) ?_ 8 _ rfl;(with_reducible repeat (first|refine blk_drewN ?_ _|refine blk_drew ?_|refine blk_alloc ?_ _));refine blk_put (cs:=#[.int .i64 a0_0,.int .i64 t3,.int .i64 t4,.string a0_3,.bool a0_4,.bool a0_5,.bool a0_6,.int .i64 0,.int .i64 0,.int .i64 0]) ?_ 7 _ rfl;(with_reducible repeat (first|refine blk_drewN ?_ _|refine blk_drew ?_|refine blk_alloc ?_ _));refine blk_put (cs:=#[.int .i64 a0_0,.int .i64 t3,.int .i64 t4,.string a0_3,.bool a0_4,.bool a0_5,.bool false,.int .i64 0,.int .i64 0,.int .i64 0]) ?_ 6 _ rfl;(with_reducible repeat (first|refine blk_drewN ?_ _|refine blk_drew ?_|refine blk_alloc ?_ _));refine blk_put (cs:=#[.int .i64 a0_0,.int .i64 t3,.int .i64 t4,.string a0_3,.bool a0_4,.bool false,.bool false,.int .i64 0,.int .i64 0,.int .i64 0]) ?_ 5 _ rfl;(with_reducible repeat (first|refine blk_drewN ?_ _|refine blk_drew ?_|refine blk_alloc ?_ _));refine blk_put (cs:=#[.int .i64 a0_0,.int .i64 t3,.int .i64 t4,.string a0_3,.bool false,.bool false,.bool false,.int .i64 0,.int .i64 0,.int .i64 0]) ?_ 4 _ rfl;(with_reducible repeat (first|refine blk_drewN ?_ _|refine blk_drew ?_|refine blk_alloc ?_ _));refine blk_put (cs:=#[.int .i64 a0_0,.int .i64 t3,.int .i64 t4,.string (⟨#[]⟩:ByteArray),.bool false,.bool false,.bool false,.int .i64 0,.int .i64 0,.int .i64 0]) ?_ 3 _ rfl;(with_reducible repeat (first|refine blk_drewN ?_ _|refine blk_drew ?_|refine blk_alloc ?_ _));refine blk_put (cs:=#[.int .i64 a0_0,.int .i64 t3,.int .i64 0,.string (⟨#[]⟩:ByteArray),.bool false,.bool false,.bool false,.int .i64 0,.int .i64 0,.int .i64 0]) ?_ 2 _ rfl;(with_reducible repeat (first|refine blk_drewN ?_ _|refine blk_drew ?_|refine blk_alloc ?_ _));refine blk_put (cs:=#[.int .i64 a0_0,.int .i64 0,.int .i64 0,.string (⟨#[]⟩:ByteArray),.bool false,.bool false,.bool false,.int .i64 0,.int .i64 0,.int .i64 0]) ?_ 1 _ rfl;(with_reducible repeat (first|refine blk_drewN ?_ _|refine blk_drew ?_|refine blk_alloc ?_ _));refine blk_put (cs:=#[.int .i64 0,.int .i64 0,.int .i64 0,.string (⟨#[]⟩:ByteArray),.bool false,.bool false,.bool false,.int .i64 0,.int .i64 0,.int .i64 0]) ?_ 0 _ rfl;(with_reducible repeat (first|refine blk_drewN ?_ _|refine blk_drew ?_|refine blk_alloc ?_ _));exact BK2.out) Try.underlying56 rfl (by kernel_rfl)) rfl ?_
 exact ⟨by first|rfl|(simp [errW_none,errW_some] <;> rfl)|(simp [*,errW_none,errW_some] <;> rfl),by repeat (first|(with_reducible first|exact HB.out|apply below_alloc|apply pw_below_drewN|apply below_drew1|refine below_set ?_ GE1.out|refine below_set ?_ GE2.out)|exact HB.out)⟩
end Go.Proofs.Ytpejjpecdkbleaa.Print
/-! #### MaPeersPlays -/
/- The law PeersPlays, by hand. -/
namespace Go.Proofs.Ytpejjpecdkbleaa.Print
open Go.RowKit Go.Proofs.YtpejjpecdkbleaaW.PrintWords Go.Proofs.YtpejjpecdkbleaaW.PrintLast Go.Proofs.YtpejjpecdkbleaaW.PrintMore
open Go.Proofs.Ytpejjpecdkbleaa.Pure (findI has_f find_f)
set_option linter.unusedVariables false
set_option linter.unusedSimpArgs false
theorem eqRq (d:Nat) (w:World) (x0 y0:Int) (x1 y1:Int) :
  (Op.equalIn (d+2) 54 (.agg #[.int .i64 x0,.int .i64 x1]) (.agg #[.int .i64 y0,.int .i64 y1])).run Try.prog w=.ok (x0 == y0 && (x1 == y1)) w:=by
 refine eqA_of Try.underlying54 (by kernel_rfl) ?_
 refine eqf_cons (by rfl) (by go_simp;rfl) (by go_simp;rfl) (by go_simp) ?_
 exact eqf_last (by rfl) (by go_simp;rfl) (by go_simp;rfl) (by go_simp)
theorem eqRp (d:Nat) (w:World) (x0 y0:Int) (x1 y1:Int) (x2 y2:Int) (x3 y3:ByteArray) (x4 y4:Bool) (x5 y5:Bool) (x6 y6:Bool) (x7 y7:Int) (x8 y8:Int) (x9 y9:Int) :
  (Op.equalIn (d+3) 56 (.agg #[.int .i64 x0,.int .i64 x1,.int .i64 x2,.string x3,.bool x4,.bool x5,.bool x6,.int .i64 x7,.int .i64 x8,.int .i64 x9]) (.agg #[.int .i64 y0,.int .i64 y1,.int .i64 y2,.string y3,.bool y4,.bool y5,.bool y6,.int .i64 y7,.int .i64 y8,.int .i64 y9])).run Try.prog w=.ok (x0 == y0 && ((x1 == y1 && (x2 == y2)) && (x3.toList == y3.toList && (x4 == y4 && (x5 == y5 && (x6 == y6 && (x7 == y7 && (x8 == y8 && (x9 == y9))))))))) w:=by
 refine eqA_of Try.underlying56 (by kernel_rfl) ?_
 refine eqf_cons (by rfl) (by go_simp;rfl) (by go_simp;rfl) (by go_simp) ?_
 refine eqf_cons (by rfl) (by go_simp) (by go_simp) (eqRq (d+0) w _ _ _ _) ?_
 refine eqf_cons (by rfl) (by go_simp;rfl) (by go_simp;rfl) (by go_simp) ?_
 refine eqf_cons (by rfl) (by go_simp;rfl) (by go_simp;rfl) (by go_simp) ?_
 refine eqf_cons (by rfl) (by go_simp;rfl) (by go_simp;rfl) (by go_simp) ?_
 refine eqf_cons (by rfl) (by go_simp;rfl) (by go_simp;rfl) (by go_simp) ?_
 refine eqf_cons (by rfl) (by go_simp;rfl) (by go_simp;rfl) (by go_simp) ?_
 refine eqf_cons (by rfl) (by go_simp;rfl) (by go_simp;rfl) (by go_simp) ?_
 exact eqf_last (by rfl) (by go_simp;rfl) (by go_simp;rfl) (by go_simp)
attribute [local go_sem high] eqRp eqRq
theorem simB_start:SimB noB []:=by
 have h2:∀ j,j < 16→noB.getD j false=false:=by decide
 refine ⟨fun k hk=>?_,fun n hn=>by cases hn⟩
 rw [h2 k hk]
 simp
theorem plays_has {W:World} {A1:Option Addr} {n1 c1 b1:Nat} {ok1:Nat→Prop} {a:List Int} (h1:Kd.R (Kd.int .i64) 3 W b1 ok1 (.slice A1 n1 c1) a) (n:Int) (hl:a.length < 1000000) :
  Calls Try.prog 24 #[.slice A1 n1 c1,.int .i64 n] W fun e W2=>e=.returned (.bool (decide (n∈a)))∧Below W.heap.size W W2:=by
 obtain ⟨rfl,hc1,hC1⟩:=Kd.R_reads' h1
 obtain ⟨k,hk⟩:=(has_f a n hl).rounds
 refine (mosaicref09_Has.calls k A1 c1 a n _ W hC1 hc1 hk).mono ?_
 rintro e W2 ⟨rfl,hd⟩
 exact ⟨rfl,hd.below⟩
theorem plays_find {w W:World} {VL VB:Value} {l:List Rf} {lb:List Int} (r:RT w W VL VB l lb) (room tmo n:Int) (hl:l.length < 1000000) :
  Calls Try.prog 26 #[.agg #[.int .i64 room,.int .i64 tmo,VL,VB],.int .i64 n] W fun e W2=>e=.returned (.int .i64 (findI l n 0))∧Below W.heap.size W W2:=by
 obtain ⟨A1,c1,rfl⟩:=r.sl
 obtain ⟨A2,c2,rfl⟩:=r.sb
 obtain ⟨k,hk⟩:=(find_f room tmo l lb n hl).rounds
 exact mosaicref18_Table_Find.calls k room tmo A1 c1 l A2 c2 lb n _ W (Kd.R_reads' r.rl).2.2 (Kd.R_reads' r.rl).2.1 (Kd.R_reads' r.rb).2.2 (Kd.R_reads' r.rb).2.1 hk
theorem banned_sim {m:PM} {bs:List Bool} {lb:List Int} (hi:InvM m bs) (s:SimB bs lb) (n:Int):(peerB n && bs.getD n.toNat false)=decide (n∈lb):=by
 by_cases h:1≤n∧n≤15
 ·
  obtain ⟨k,rfl⟩:=Int.eq_ofNat_of_zero_le (show 0≤n by omega)
  rw [show peerB (k:Int)=true from decide_eq_true h,Bool.true_and,Int.toNat_natCast,Bool.eq_iff_iff,decide_eq_true_eq]
  exact s.of k (by omega)
 ·
  rw [show peerB n=false from decide_eq_false h,Bool.false_and,eq_comm,decide_eq_false_iff_not]
  exact fun hn=>h (s.all n hn)
theorem range_sim {m:PM} {bs:List Bool} (hi:InvM m bs):(∀ x∈listM m,0≤x.f6∧x.f6≤1099511627776)∧(∀ x∈listM m,0≤x.f7∧x.f7≤1099511627776):=by
 refine ⟨fun x hx=>?_,fun x hx=>?_⟩
 all_goals
  obtain ⟨i,p,hp,rfl,_,_,_⟩:=hi.mem hx
  have:=hi.node i p hp
 ·
  exact this.2.2.1
 ·
  exact this.2.2.2
theorem do_sim {w W:World} {VL VB:Value} {m:PM} {bs:List Bool} {lb:List Int} {g:Nat} {room tmo kind node num x y:Int} {s:ByteArray} {on:Bool} (t:PT w W g room tmo m bs) (r:RT w W VL VB (listM m) lb) (hlb:lb.length < 1000000) (hs:SimB bs lb) :
  Calls Try.prog 20 #[.pointer (some ⟨g,0,none⟩),.agg #[.int .i64 room,.int .i64 tmo,VL,VB],.agg #[.int .i64 kind,.int .i64 node,.int .i64 num,.int .i64 x,.int .i64 y,.string s,.bool on]] W fun e W2=>∃ A3 c3 A4 c4 m3 bs3 lb3,e=.returned (.tuple #[.agg #[.int .i64 room,.int .i64 tmo,.slice A3 (listM m3).length c3,.slice A4 lb3.length c4],.bool true])∧PT w W2 g room tmo m3 bs3∧RT w W2 (.slice A3 (listM m3).length c3) (.slice A4 lb3.length c4) (listM m3) lb3∧Kept W W2 (TyS W)∧SimB bs3 lb3∧lb3.length≤lb.length+1:=by
 refine (do_any t r (by have:=listM_le m;rw [t.inv.len] at this;omega) hlb (listM_nodup t.inv.nodeAt) (range_sim t.inv).1 (range_sim t.inv).2).mono ?_
 rintro e W2 ⟨V2,V3,ok,l',lb',rfl,hp,hr,hk,hsim⟩
 obtain ⟨rfl,rfl,hsb,hlen⟩:=hsim rfl hs
 obtain ⟨A3,c3,rfl⟩:=hr.sl
 obtain ⟨A4,c4,rfl⟩:=hr.sb
 exact ⟨A3,c3,A4,c4,_,_,lb',rfl,hp,hr,hk,hsb,hlen⟩
theorem refP_get {m:PM} (k:Nat) (hk:k < (m.filterMap id).length):rd_T56 (listM m) (k:Int)=refP (rd_T33 (m.filterMap id) (k:Int)):=by
 rw [Go.Proofs.Ytpejjpecdkbleaa.Pure.rdp _ k (by rw [listM_len];exact hk)]
 unfold rd_T33 listM
 rw [Int.toNat_natCast,List.getD_eq_getElem?_getD,List.getElem?_eq_getElem hk,List.getElem_map]
 rfl
/-- The cells of a peer, in either row. -/
def CellsP (W:World) (a:Addr) (p:Pr):Prop:=W.cell? a=some (.int .i64 p.f0)∧W.cell? ⟨a.block,a.off+1,none⟩=some (.int .i64 p.f1.f0)∧W.cell? ⟨a.block,a.off+2,none⟩=some (.int .i64 p.f1.f1)∧W.cell? ⟨a.block,a.off+3,none⟩=some (.string p.f2)∧W.cell? ⟨a.block,a.off+4,none⟩=some (.bool p.f3)∧W.cell? ⟨a.block,a.off+5,none⟩=some (.bool p.f4)∧W.cell? ⟨a.block,a.off+6,none⟩=some (.bool p.f5)∧W.cell? ⟨a.block,a.off+7,none⟩=some (.int .i64 p.f6)∧W.cell? ⟨a.block,a.off+8,none⟩=some (.int .i64 p.f7)∧W.cell? ⟨a.block,a.off+9,none⟩=some (.int .i64 p.f8)
theorem cells_peer {W:World} {A:Option Addr} {n:Nat} {xs:List Pr} (h:Kd.C k33 W A n xs) (k:Nat) (hk:k < n):∃ ad,A=some ad∧CellsP W (ad.add (k * 10)) (rd_T33 xs (k:Int)):=by
 obtain ⟨ad,hA,h⟩:=at_T33 h (k:Int) (by omega) (by omega)
 rw [Int.toNat_natCast] at h
 exact ⟨ad,hA,h⟩
theorem cells_ref {W:World} {A:Option Addr} {n:Nat} {xs:List Rf} (h:Kd.C k56 W A n xs) (k:Nat) (hk:k < n) (p:Pr) (hp:rd_T56 xs (k:Int)=refP p):∃ ad,A=some ad∧CellsP W (ad.add (k * 10)) p:=by
 obtain ⟨ad,hA,h⟩:=at_T56 h (k:Int) (by omega) (by omega)
 rw [Int.toNat_natCast,hp] at h
 exact ⟨ad,hA,h⟩
theorem ref18 (p:Pr) (W:World):Calls Try.prog 25 #[.agg (peerC p).toArray] W fun e W2=>e=.returned (.agg #[.int .i64 p.f0,.int .i64 p.f1.f0,.int .i64 p.f1.f1,.string p.f2,.bool p.f3,.bool p.f4,.bool p.f5,.int .i64 p.f6,.int .i64 p.f7,.int .i64 p.f8])∧Below W.heap.size W W2 :=
 mosaiclaw18_Ref.calls p.f0 p.f1.f0 p.f1.f1 p.f2 p.f3 p.f4 p.f5 p.f6 p.f7 p.f8 _ _ _ _ _ _ _ _ _ _ W rfl
def mosaiclaw18_PeersPlays.f (a0 a1:Int) (l2:List S42):Option Bool:=some true
set_option maxHeartbeats 8000000 in
set_option maxRecDepth 100000 in
theorem mosaiclaw18_PeersPlays.calls (room tmo:Int) (A2:Option Addr) (c2:Nat) (l2:List S42) (r:Bool) (w:World) (hr2:Kd.C k42 w A2 l2.length l2) (hc2:l2.length≤c2) (h:mosaiclaw18_PeersPlays.f room tmo l2=some r) :
  Calls Try.prog 6 #[.int .i64 room,.int .i64 tmo,.slice A2 l2.length c2] w fun e w'=>e=.returned (.bool r)∧Below w.heap.size w w':=by
 obtain rfl:=Option.some.inj (show some true=some r from h)
 clear h
 have HR:=Aside0.mk hr2
 clear hr2 hc2
 by_cases htm:1≤room∧room≤15∧1≤tmo∧tmo≤1099511627776
 ·
  have HTM:=Aside0.mk htm
  obtain ⟨t1,t2,t3,t4⟩:=htm
  go_enter Try.func6,Try.ntmps6
  go_wp2_with fail
  refine (PT_new room tmo w HTM.out).mono ?_
  rintro e W1 ⟨g,rfl,t⟩
  have T1:=Aside0.mk (show PT w W1 g room tmo aw0 noB from t)
  clear t
  go_wp2_with (refine store_new rfl 45 (.tmp 8) (.tmp 41) rfl W1.heap.size #[.int .i64 room,.int .i64 tmo,.slice none 0 0,.slice none 0 0] rfl rfl 45 _ (heap_alloc_new W1 _) info45z rfl (t45_one _ _ _ _ _ _ _ _) ?_;intro W2 hW2 hb2;have hb2':=(Below.trans (below_alloc (Below.refl _ _) _) hb2);have T2:=Aside0.mk (T1.out.below hb2');have HG8:=Aside0.mk (show w.heap.size≤W1.heap.size from T1.out.bel.size);have HQ2:=Aside0.mk hW2;generalize W1.heap.size=g8 at HG8 HQ2 ⊢;clear hW2 hb2 hb2' T1)
  refine (awake18 _).mono ?_
  rintro e W3 ⟨rfl,hb⟩
  have T3:=Aside0.mk (T2.out.below hb)
  have HQ3:=Aside0.mk (blk_below HQ2.out hb)
  clear hb T2 HQ2
  go_wp2_with fail
  go_loopg [9] 61 (fun gg v9 wr=>∃ (i:Nat) (m:PM) (bs:List Bool) (lb:List Int) (A8:Option Addr) (c8:Nat) (A9:Option Addr) (c9:Nat),v9=.int .i64 i∧Aside0 (i+gg=61)∧Aside0 (PT w wr g room tmo m bs)∧Aside0 (RT w wr (.slice A8 (listM m).length c8) (.slice A9 lb.length c9) (listM m) lb)∧Aside0 (SimB bs lb∧lb.length≤i)∧Aside0 (wr.heap[g8]?=some (.cells #[.int .i64 room,.int .i64 tmo,.slice A8 (listM m).length c8,.slice A9 lb.length c9] 45 (0,0))))
  case atStart=>exact ⟨0,aw0,noB,[],none,0,none,0,rfl,⟨by omega⟩,T3,⟨rt_nil _ _⟩,⟨simB_start,by simp⟩,HQ3⟩
  case round =>
   clear T3 HQ3
   obtain ⟨i,m,bs,lb,A8,c8,A9,c9,rfl,HG,HT,HRT,HSB,HQ⟩:=hrel
   by_cases hlt:(i:Int) < (l2.length:Int)
   ·
    by_cases h60:(i:Int) < 60
    ·
     obtain ⟨gg,rfl⟩:∃ q,gk=q+1:=⟨gk - 1,by have:=HG.out;omega⟩
     have HZ:=Aside0.mk (fun (W':World) (hb:Below w.heap.size w W')=>at_T42 (Kd.C_below HR.out hb) (i:Int) (by omega) hlt)
     rw [Int.toNat_natCast] at HZ
     generalize rd_T42 l2 (i:Int)=q at HZ
     obtain ⟨ad,hA,z0,z1,z2,z3,z4,z5,z6⟩:=HZ.out wr HT.out.bel
     subst hA
     by_cases h100:(100:Int) < (q.f4.size:Int)
     ·
      clear z0 z1 z2 z3 z4 z6
      go_wp2_with fail
      go_roundg gg
      case measure=>omega
      case rel=>exact ⟨i+1,m,bs,lb,A8,c8,A9,c9,by go_num,⟨by have:=HG.out;omega⟩,HT,HRT,⟨HSB.out.1,by have:=HSB.out.2;omega⟩,HQ⟩
     ·
      have HLM:=Aside0.mk (show (listM m).length < 1000000 by have:=listM_le m;rw [HT.out.inv.len] at this;omega)
      have HLB:=Aside0.mk (show lb.length < 1000000 by have:=HSB.out.2;omega)
      go_upto_region 11 with fail
      go_cut [10,11] from 48 to 163 (fun v10 v11 wc=>∃ (g10:Nat) (A3:Option Addr) (c3:Nat) (A4:Option Addr) (c4:Nat) (m3:PM) (bs3:List Bool) (lb3:List Int),v10=.pointer (some ⟨g10,0,none⟩)∧v11=.bool true∧Aside0 (¬ g10=g8)∧Aside0 (PT w wc g room tmo m3 bs3)∧Aside0 (RT w wc (.slice A3 (listM m3).length c3) (.slice A4 lb3.length c4) (listM m3) lb3)∧Aside0 (SimB bs3 lb3∧lb3.length≤i+1)∧Aside0 (wc.heap[g8]?=some (.cells #[.int .i64 room,.int .i64 tmo,.slice A8 (listM m).length c8,.slice A9 lb.length c9] 45 (0,0)))∧Aside0 (wc.heap[g10]?=some (.cells #[.int .i64 room,.int .i64 tmo,.slice A3 (listM m3).length c3,.slice A4 lb3.length c4] 45 (0,0))))
      case first =>
       have k0:=(show wr.cell? ⟨g8,0,none⟩=some (.int .i64 room) from blk_cell HQ.out 0)
       have k1:=(show wr.cell? ⟨g8,1,none⟩=some (.int .i64 tmo) from blk_cell HQ.out 1)
       have k2:=(show wr.cell? ⟨g8,2,none⟩=some (.slice A8 (listM m).length c8) from blk_cell HQ.out 2)
       have k3:=(show wr.cell? ⟨g8,3,none⟩=some (.slice A9 lb.length c9) from blk_cell HQ.out 3)
       have n1wr:=World.new_ne wr _ k0
       have n2wr:=World.new_ne wr _ z0
       have n3wr:¬ wr.heap.size=g8:=fun e=>n1wr e
       go_region_held3 (fun w'=>w'.cell? ⟨g8,0,none⟩=some (.int .i64 room)∧w'.cell? ⟨g8,1,none⟩=some (.int .i64 tmo)∧w'.cell? ⟨g8,2,none⟩=some (.slice A8 (listM m).length c8)∧w'.cell? ⟨g8,3,none⟩=some (.slice A9 lb.length c9)∧w'.cell? (ad.add (i * 7))=some (.int .i64 q.f0)∧w'.cell? ⟨(ad.add (i * 7)).block,(ad.add (i * 7)).off+1,none⟩=some (.int .i64 q.f1)∧w'.cell? ⟨(ad.add (i * 7)).block,(ad.add (i * 7)).off+2,none⟩=some (.int .i64 q.f2)∧w'.cell? ⟨(ad.add (i * 7)).block,(ad.add (i * 7)).off+3,none⟩=some (.int .i64 q.f3.f0)∧w'.cell? ⟨(ad.add (i * 7)).block,(ad.add (i * 7)).off+4,none⟩=some (.int .i64 q.f3.f1)∧w'.cell? ⟨(ad.add (i * 7)).block,(ad.add (i * 7)).off+5,none⟩=some (.string q.f4)∧w'.cell? ⟨(ad.add (i * 7)).block,(ad.add (i * 7)).off+6,none⟩=some (.bool q.f5)) (go_keep)
        (first
         | (go_at_call 20;refine (do_sim (HT.out.below (by repeat (first|(with_reducible first|exact Below.refl _ _|apply below_alloc|apply pw_below_drewN|apply below_drew1)|exact Below.refl _ _))) (HRT.out.below (by repeat (first|(with_reducible first|exact Below.refl _ _|apply below_alloc|apply pw_below_drewN|apply below_drew1)|exact Below.refl _ _))) HLB.out HSB.out.1).mono ?_;rintro e w3 ⟨A3,c3,A4,c4,m3,bs3,lb3,he,hp,hrt,hk,hsb,hlen⟩;subst he;have HT3:=Aside0.mk hp;have HRT3:=Aside0.mk hrt;have HSB3:=Aside0.mk (And.intro hsb (show lb3.length≤i+1 by have:=HSB.out.2;omega));have HQ3:=Aside0.mk (blk_kept (blk_below HQ.out (by repeat (first|(with_reducible first|exact Below.refl _ _|apply below_alloc|apply pw_below_drewN|apply below_drew1)|exact Below.refl _ _))) hk (tyS_not (blk_below HQ.out (by repeat (first|(with_reducible first|exact Below.refl _ _|apply below_alloc|apply pw_below_drewN|apply below_drew1)|exact Below.refl _ _))) (by decide) (by decide) (by decide) (by decide)));have hz:=blk_kept (g:=wr.heap.size) (o:=.cells #[.int .i64 0,.int .i64 0,.slice none 0 0,.slice none 0 0] 45 (0,0)) (by first|exact heap_alloc_new _ _|exact blk_drew (heap_alloc_new _ _)|exact blk_drewN (heap_alloc_new _ _) _) hk (tyS_not (b:=wr.heap.size) (t:=45) (cells:=#[.int .i64 0,.int .i64 0,.slice none 0 0,.slice none 0 0]) (by first|exact heap_alloc_new _ _|exact blk_drew (heap_alloc_new _ _)|exact blk_drewN (heap_alloc_new _ _) _) (by decide) (by decide) (by decide) (by decide));have u0:=(show w3.cell? ⟨wr.heap.size,0,none⟩=some (.int .i64 0) from blk_cell hz 0);have uz0:=(show w3.frozen? ⟨wr.heap.size,0,none⟩=false from blk_frozen hz 0);have u1:=(show w3.cell? ⟨wr.heap.size,1,none⟩=some (.int .i64 0) from blk_cell hz 1);have uz1:=(show w3.frozen? ⟨wr.heap.size,1,none⟩=false from blk_frozen hz 1);have u2:=(show w3.cell? ⟨wr.heap.size,2,none⟩=some (.slice none 0 0) from blk_cell hz 2);have uz2:=(show w3.frozen? ⟨wr.heap.size,2,none⟩=false from blk_frozen hz 2);have u3:=(show w3.cell? ⟨wr.heap.size,3,none⟩=some (.slice none 0 0) from blk_cell hz 3);have uz3:=(show w3.frozen? ⟨wr.heap.size,3,none⟩=false from blk_frozen hz 3);have HZ3:=Aside0.mk hz;clear hz;clear hp hrt hk hsb hlen k0 k1 k2 k3 z0 z1 z2 z3 z4 z5 z6;have k0:=(show w3.cell? ⟨g8,0,none⟩=some (.int .i64 room) from blk_cell HQ3.out 0);have k1:=(show w3.cell? ⟨g8,1,none⟩=some (.int .i64 tmo) from blk_cell HQ3.out 1);have k2:=(show w3.cell? ⟨g8,2,none⟩=some (.slice A8 (listM m).length c8) from blk_cell HQ3.out 2);have k3:=(show w3.cell? ⟨g8,3,none⟩=some (.slice A9 lb.length c9) from blk_cell HQ3.out 3);obtain ⟨ad_,hA_,z0,z1,z2,z3,z4,z5,z6⟩:=HZ.out w3 HT3.out.bel;obtain rfl:=Option.some.inj hA_;clear hA_;have n1w3:=World.new_ne w3 _ k0;have n2w3:=World.new_ne w3 _ z0)
         | (go_at_call 20;refine (do_sim (HT.out.below (by repeat (first|(with_reducible first|exact Below.refl _ _|apply below_alloc|apply pw_below_drewN|apply below_drew1)|exact Below.refl _ _))) (HRT.out.below (by repeat (first|(with_reducible first|exact Below.refl _ _|apply below_alloc|apply pw_below_drewN|apply below_drew1)|exact Below.refl _ _))) HLB.out HSB.out.1).mono ?_;rintro e w3 ⟨A3,c3,A4,c4,m3,bs3,lb3,he,hp,hrt,hk,hsb,hlen⟩;subst he;have HT3:=Aside0.mk hp;have HRT3:=Aside0.mk hrt;have HSB3:=Aside0.mk (And.intro hsb (show lb3.length≤i+1 by have:=HSB.out.2;omega));have HQ3:=Aside0.mk (blk_kept (blk_below HQ.out (by repeat (first|(with_reducible first|exact Below.refl _ _|apply below_alloc|apply pw_below_drewN|apply below_drew1)|exact Below.refl _ _))) hk (tyS_not (blk_below HQ.out (by repeat (first|(with_reducible first|exact Below.refl _ _|apply below_alloc|apply pw_below_drewN|apply below_drew1)|exact Below.refl _ _))) (by decide) (by decide) (by decide) (by decide)));clear hp hrt hk hsb hlen k0 k1 k2 k3 z0 z1 z2 z3 z4 z5 z6;have k0:=(show w3.cell? ⟨g8,0,none⟩=some (.int .i64 room) from blk_cell HQ3.out 0);have k1:=(show w3.cell? ⟨g8,1,none⟩=some (.int .i64 tmo) from blk_cell HQ3.out 1);have k2:=(show w3.cell? ⟨g8,2,none⟩=some (.slice A8 (listM m).length c8) from blk_cell HQ3.out 2);have k3:=(show w3.cell? ⟨g8,3,none⟩=some (.slice A9 lb.length c9) from blk_cell HQ3.out 3);obtain ⟨ad_,hA_,z0,z1,z2,z3,z4,z5,z6⟩:=HZ.out w3 HT3.out.bel;obtain rfl:=Option.some.inj hA_;clear hA_;have n1w3:=World.new_ne w3 _ k0;have n2w3:=World.new_ne w3 _ z0))
       all_goals
        (try go_wp2_with fail)
        go_meet
        case rel =>
         have hws:=HT.out.bel.size
         have hg8:=blk_lt HQ.out
         first
         | exact ⟨wr.heap.size,A3,c3,A4,c4,m3,bs3,lb3,rfl,rfl,⟨by omega⟩,⟨HT3.out.keepB HZ3.out (by decide) (by decide) (set4 HZ3.out _ _ _ _).2 ((((HT3.out.bel.setCell (by show w.heap.size≤wr.heap.size;omega) _).setCell (by show w.heap.size≤wr.heap.size;omega) _).setCell (by show w.heap.size≤wr.heap.size;omega) _).setCell (by show w.heap.size≤wr.heap.size;omega) _)⟩,⟨HRT3.out.keep45 HZ3.out (set4 HZ3.out _ _ _ _).2⟩,HSB3,⟨(set4 HZ3.out _ _ _ _).2.blk HQ3.out (by omega) (by simp)⟩,⟨(set4 HZ3.out _ _ _ _).1⟩⟩
         | exact ⟨w3.heap.size,A3,c3,A4,c4,m3,bs3,lb3,rfl,rfl,⟨fun e=>n1w3 e⟩,⟨HT3.out.below (below_alloc (Below.refl _ _) _)⟩,⟨HRT3.out.below (below_alloc (Below.refl _ _) _)⟩,HSB3,⟨blk_alloc HQ3.out _⟩,⟨heap_alloc_new _ _⟩⟩
         | (trace_state;fail)
      case rest =>
       obtain ⟨g10,A3,c3,A4,c4,m3,bs3,lb3,rfl,rfl,HNE,HT3,HRT3,HSB3,HQ8,HQ10⟩:=hcut
       clear HT HRT HSB HQ z0 z1 z2 z3 z4 z5 z6 HLM HLB
       have q0:=(show wc.cell? ⟨g10,0,none⟩=some (.int .i64 room) from blk_cell HQ10.out 0)
       have q1:=(show wc.cell? ⟨g10,1,none⟩=some (.int .i64 tmo) from blk_cell HQ10.out 1)
       have q2:=(show wc.cell? ⟨g10,2,none⟩=some (.slice A3 (listM m3).length c3) from blk_cell HQ10.out 2)
       have q3:=(show wc.cell? ⟨g10,3,none⟩=some (.slice A4 lb3.length c4) from blk_cell HQ10.out 3)
       go_wp2_with (refine store_own rfl 45 (.tmp 8) (.tmp 75) rfl g8 #[.int .i64 room,.int .i64 tmo,.slice A3 (listM m3).length c3,.slice A4 lb3.length c4] rfl rfl 45 _ HQ8.out info45z rfl (t45_one _ _ _ _ _ _ _ _) ?_;intro w5 hW5 hb5 hk5;have hbel:=below_weaken HT3.out.bel HG8.out hb5;have HT5:=Aside0.mk (HT3.out.keepB HQ8.out (by decide) (by decide) hk5 hbel);have HRT5:=Aside0.mk (HRT3.out.keep45 HQ8.out hk5);have HQ5:=Aside0.mk hW5;clear hW5 hb5 hk5 hbel HT3 HRT3 HQ8 HQ10 HNE q0 q1 q2 q3)
       refine (HT5.out.List_any).mono ?_
       rintro e w6 ⟨v,rfl,hv,hb⟩
       obtain ⟨A12,c12,hv6⟩:=Kd.R_slice hv
       subst hv6
       have HL6:=Aside0.mk (Kd.R_reads' hv).2.2
       have HT6:=Aside0.mk (HT5.out.below hb)
       have HRT6:=Aside0.mk (HRT5.out.below hb)
       have HQ6:=Aside0.mk (blk_below HQ5.out hb)
       clear hv hb HT5 HRT5 HQ5
       have HN6:=Aside0.mk (listM_len m3)
       have HB6:=Aside0.mk (banned_sim HT6.out.inv HSB3.out.1 q.f1)
       go_upto_region 14 with fail
       go_cut [112] from 48 to 163 (fun v112 wq=>v112=.bool false∧Aside0 (Below w6.heap.size w6 wq))
       case first =>
        obtain ⟨ad_,hA_,z0,z1,z2,z3,z4,z5,z6⟩:=HZ.out w6 HT6.out.bel
        obtain rfl:=Option.some.inj hA_
        clear hA_ z0 z2 z3 z4 z5 z6
        have HK6:=Aside0.mk (fun (W':World) (hb:Below w6.heap.size w6 W')=>(And.intro (show W'.cell? ⟨g8,2,none⟩=some (.slice A3 (List.filterMap id m3).length c3) by rw [← HN6.out];exact blk_cell (blk_below HQ6.out hb) 2) (And.intro (show W'.cell? ⟨g8,3,none⟩=some (.slice A4 lb3.length c4) from blk_cell (blk_below HQ6.out hb) 3) (show W'.cell? ⟨(ad.add (i * 7)).block,(ad.add (i * 7)).off+1,none⟩=some (.int .i64 q.f1) from (HZ.out W' (below_step HT6.out.bel hb)).elim (fun a h=>by obtain ⟨rfl⟩:=Option.some.inj h.1;exact h.2.2.1)))))
        have HLEN:=Aside0.mk (fun (W':World) (hb:Below w6.heap.size w6 W')=>(HT6.out.below hb).Len_any)
        have HHAS:=Aside0.mk (fun (W':World) (hb:Below w6.heap.size w6 W')=>plays_has (HRT6.out.below hb).rb q.f1 (show lb3.length < 1000000 by have:=HSB3.out.2;omega))
        have HBAN:=Aside0.mk (fun (W':World) (hb:Below w6.heap.size w6 W')=>(HT6.out.below hb).Banned_any q.f1)
        rw [HB6.out] at HBAN
        generalize decide (q.f1∈lb3)=bb at HHAS HBAN
        obtain ⟨k2,k3,z1⟩:=HK6.out w6 (Below.refl _ _)
        cases bb
        all_goals
         go_region_held3 (fun w'=>w'.cell? ⟨g8,2,none⟩=some (.slice A3 (List.filterMap id m3).length c3)∧w'.cell? ⟨g8,3,none⟩=some (.slice A4 lb3.length c4)∧w'.cell? ⟨(ad.add (i * 7)).block,(ad.add (i * 7)).off+1,none⟩=some (.int .i64 q.f1)) (go_keep)
          (first
           | (go_at_call 22;refine (HLEN.out _ (by repeat (first|(with_reducible first|exact Below.refl _ _|apply below_alloc|apply pw_below_drewN|apply below_drew1)|exact Below.refl _ _))).mono ?_;rintro e w7 ⟨he,hb⟩;subst he;have HB7:=Aside0.mk (below_step (by repeat (first|(with_reducible first|exact Below.refl _ _|apply below_alloc|apply pw_below_drewN|apply below_drew1)|exact Below.refl _ _)) hb:Below w6.heap.size w6 w7);clear k2 k3 z1 hb;obtain ⟨k2,k3,z1⟩:=HK6.out w7 HB7.out)
           | (go_at_call 23;refine (HBAN.out _ (below_step HB7.out (by repeat (first|(with_reducible first|exact Below.refl _ _|apply below_alloc|apply pw_below_drewN|apply below_drew1)|exact Below.refl _ _)))).mono ?_;rintro e w8 ⟨he,hb⟩;subst he;have HB8:=Aside0.mk (below_step (below_step HB7.out (by repeat (first|(with_reducible first|exact Below.refl _ _|apply below_alloc|apply pw_below_drewN|apply below_drew1)|exact Below.refl _ _))) hb:Below w6.heap.size w6 w8);clear k2 k3 z1 hb;obtain ⟨k2,k3,z1⟩:=HK6.out w8 HB8.out)
           | (go_at_call 24;refine (HHAS.out _ (below_step HB8.out (by repeat (first|(with_reducible first|exact Below.refl _ _|apply below_alloc|apply pw_below_drewN|apply below_drew1)|exact Below.refl _ _)))).mono ?_;rintro e w9 ⟨he,hb⟩;subst he;have HB9:=Aside0.mk (below_step (below_step HB8.out (by repeat (first|(with_reducible first|exact Below.refl _ _|apply below_alloc|apply pw_below_drewN|apply below_drew1)|exact Below.refl _ _))) hb:Below w6.heap.size w6 w9);clear k2 k3 z1 hb;obtain ⟨k2,k3,z1⟩:=HK6.out w9 HB9.out))
         all_goals
          (try go_wp2_with fail)
          go_meet
          case rel=>exact ⟨rfl,⟨below_step HB9.out (by repeat (first|(with_reducible first|exact Below.refl _ _|apply below_alloc|apply pw_below_drewN|apply below_drew1)|exact Below.refl _ _))⟩⟩
       case rest =>
        obtain ⟨rfl,HW7⟩:=hcut
        clear HB6
        go_wp2_with fail
        have HX:=Aside0.mk (fun (W':World) (hb:Below w6.heap.size w6 W') (k:Nat) (hk:k < (List.filterMap id m3).length)=>And.intro (cells_peer (Kd.C_below HL6.out hb) k hk) (cells_ref (Kd.R_reads' (Kd.R_below HRT6.out.rl hb)).2.2 k (by rw [listM_len];exact hk) _ (refP_get k hk)))
        go_loopg [13] 17 (fun g2 v13 wr2=>∃ (k:Nat),v13=.int .i64 k∧Aside0 (k+g2=17)∧Aside0 (Below w6.heap.size w6 wr2))
        case atStart=>exact ⟨0,rfl,⟨by omega⟩,⟨below_step HW7.out (by repeat (first|(with_reducible first|exact Below.refl _ _|apply below_alloc|apply pw_below_drewN|apply below_drew1)|exact Below.refl _ _))⟩⟩
        case round =>
         clear HW7
         obtain ⟨k,rfl,HK,HW⟩:=hrel
         by_cases hkl:(k:Int) < ((List.filterMap id m3).length:Int)
         ·
          obtain ⟨g3,rfl⟩:∃ q,gk=q+1:=⟨gk - 1,by have:=HK.out;have:=listM_le m3;rw [listM_len,HT6.out.inv.len] at this;omega⟩
          have hk17:k < 17:=by have:=HK.out;omega
          have HXP:=Aside0.mk (fun (W':World) (hb:Below w6.heap.size w6 W')=>And.intro (show W'.cell? ⟨g8,2,none⟩=some (.slice A3 (List.filterMap id m3).length c3) by rw [← HN6.out];exact blk_cell (blk_below HQ6.out hb) 2) (HX.out W' hb k (by omega)))
          generalize rd_T33 (List.filterMap id m3) (k:Int)=p at HXP
          obtain ⟨k2,⟨ad5,hA5,x0,x1,x2,x3,x4,x5,x6,x7,x8,x9⟩,⟨ad6,hA6,y0,y1,y2,y3,y4,y5,y6,y7,y8,y9⟩⟩:=HXP.out wr HW.out
          subst hA5
          subst hA6
          go_wp2_with fail
          go_region_held3 (fun w'=>w'.cell? ⟨g8,2,none⟩=some (.slice (some ad6) (List.filterMap id m3).length c3)∧w'.cell? (ad5.add (k * 10))=some (.int .i64 p.f0)∧w'.cell? ⟨(ad5.add (k * 10)).block,(ad5.add (k * 10)).off+1,none⟩=some (.int .i64 p.f1.f0)∧w'.cell? ⟨(ad5.add (k * 10)).block,(ad5.add (k * 10)).off+2,none⟩=some (.int .i64 p.f1.f1)∧w'.cell? ⟨(ad5.add (k * 10)).block,(ad5.add (k * 10)).off+3,none⟩=some (.string p.f2)∧w'.cell? ⟨(ad5.add (k * 10)).block,(ad5.add (k * 10)).off+4,none⟩=some (.bool p.f3)∧w'.cell? ⟨(ad5.add (k * 10)).block,(ad5.add (k * 10)).off+5,none⟩=some (.bool p.f4)∧w'.cell? ⟨(ad5.add (k * 10)).block,(ad5.add (k * 10)).off+6,none⟩=some (.bool p.f5)∧w'.cell? ⟨(ad5.add (k * 10)).block,(ad5.add (k * 10)).off+7,none⟩=some (.int .i64 p.f6)∧w'.cell? ⟨(ad5.add (k * 10)).block,(ad5.add (k * 10)).off+8,none⟩=some (.int .i64 p.f7)∧w'.cell? ⟨(ad5.add (k * 10)).block,(ad5.add (k * 10)).off+9,none⟩=some (.int .i64 p.f8)∧w'.cell? (ad6.add (k * 10))=some (.int .i64 p.f0)∧w'.cell? ⟨(ad6.add (k * 10)).block,(ad6.add (k * 10)).off+1,none⟩=some (.int .i64 p.f1.f0)∧w'.cell? ⟨(ad6.add (k * 10)).block,(ad6.add (k * 10)).off+2,none⟩=some (.int .i64 p.f1.f1)∧w'.cell? ⟨(ad6.add (k * 10)).block,(ad6.add (k * 10)).off+3,none⟩=some (.string p.f2)∧w'.cell? ⟨(ad6.add (k * 10)).block,(ad6.add (k * 10)).off+4,none⟩=some (.bool p.f3)∧w'.cell? ⟨(ad6.add (k * 10)).block,(ad6.add (k * 10)).off+5,none⟩=some (.bool p.f4)∧w'.cell? ⟨(ad6.add (k * 10)).block,(ad6.add (k * 10)).off+6,none⟩=some (.bool p.f5)∧w'.cell? ⟨(ad6.add (k * 10)).block,(ad6.add (k * 10)).off+7,none⟩=some (.int .i64 p.f6)∧w'.cell? ⟨(ad6.add (k * 10)).block,(ad6.add (k * 10)).off+8,none⟩=some (.int .i64 p.f7)∧w'.cell? ⟨(ad6.add (k * 10)).block,(ad6.add (k * 10)).off+9,none⟩=some (.int .i64 p.f8)) (go_keep)
           (first
            | (go_at_call 25;refine (ref18 p _).mono ?_;rintro e w8 ⟨he,hb⟩;subst he;have HW8:=Aside0.mk (below_step (below_step HW.out (by repeat (first|(with_reducible first|exact Below.refl _ _|apply below_alloc|apply pw_below_drewN|apply below_drew1)|exact Below.refl _ _))) hb:Below w6.heap.size w6 w8);clear hb k2 x0 x1 x2 x3 x4 x5 x6 x7 x8 x9 y0 y1 y2 y3 y4 y5 y6 y7 y8 y9;obtain ⟨k2,⟨ad5_,hA5,x0,x1,x2,x3,x4,x5,x6,x7,x8,x9⟩,⟨ad6_,hA6,y0,y1,y2,y3,y4,y5,y6,y7,y8,y9⟩⟩:=HXP.out w8 HW8.out;obtain rfl:=Option.some.inj hA5;obtain rfl:=Option.some.inj hA6;clear hA5 hA6))
          all_goals
           (try go_wp2_with fail)
           go_roundg g3
           case measure=>omega
           case rel=>exact ⟨k+1,by go_num,⟨by have:=HK.out;omega⟩,⟨below_step HW8.out (by repeat (first|(with_reducible first|exact Below.refl _ _|apply below_alloc|apply pw_below_drewN|apply below_drew1)|exact Below.refl _ _))⟩⟩
         ·
          have HZQ:=Aside0.mk (fun (W':World) (hb:Below w6.heap.size w6 W')=>(show W'.cell? ⟨(ad.add (i * 7)).block,(ad.add (i * 7)).off+1,none⟩=some (.int .i64 q.f1) from (HZ.out W' (below_step HT6.out.bel hb)).elim (fun a h=>by obtain ⟨rfl⟩:=Option.some.inj h.1;exact h.2.2.1)))
          have HKQ:=Aside0.mk (fun (W':World) (hb:Below w6.heap.size w6 W')=>(And.intro (show W'.cell? ⟨g8,0,none⟩=some (.int .i64 room) from blk_cell (blk_below HQ6.out hb) 0) (And.intro (show W'.cell? ⟨g8,1,none⟩=some (.int .i64 tmo) from blk_cell (blk_below HQ6.out hb) 1) (And.intro (show W'.cell? ⟨g8,2,none⟩=some (.slice A3 (listM m3).length c3) from blk_cell (blk_below HQ6.out hb) 2) (show W'.cell? ⟨g8,3,none⟩=some (.slice A4 lb3.length c4) from blk_cell (blk_below HQ6.out hb) 3)))))
          have z1:=HZQ.out wr HW.out
          have HGET:=Aside0.mk ((HT6.out.below HW.out).Get_any q.f1)
          have HFIND:=Aside0.mk (fun (W':World) (hb:Below w6.heap.size w6 W')=>plays_find (HRT6.out.below hb) room tmo q.f1 (show (listM m3).length < 1000000 by have:=listM_le m3;rw [HT6.out.inv.len] at this;omega))
          rcases hx:atM m3 q.f1 with _|p
          ·
           rw [hx] at HGET
           rw [find_none HT6.out.inv hx] at HFIND
           clear hx
           go_wp2_with fail
           refine HGET.out.mono ?_
           rintro e w10 ⟨rfl,hb⟩
           have HW10:=Aside0.mk (below_step HW.out hb)
           clear hb z1 HGET
           go_wp2_with (refine store_new rfl 33 (.tmp 14) (.tmp 138) rfl w10.heap.size (peerC ((none:Option Pr).getD z33)).toArray rfl rfl 33 _ (heap_alloc_new w10 _) info33z rfl (peer_one _) ?_;intro w11 hW11 hb11;have HW11:=Aside0.mk (below_step HW10.out (Below.trans (below_alloc (Below.refl _ _) _) hb11));generalize w10.heap.size=g14;clear hW11 hb11 HW10)
           have z1:=HZQ.out w11 HW11.out
           obtain ⟨k0,k1,k2,k3⟩:=HKQ.out w11 HW11.out
           go_region_held3 (fun w'=>w'.cell? ⟨g8,0,none⟩=some (.int .i64 room)∧w'.cell? ⟨g8,1,none⟩=some (.int .i64 tmo)∧w'.cell? ⟨g8,2,none⟩=some (.slice A3 (listM m3).length c3)∧w'.cell? ⟨g8,3,none⟩=some (.slice A4 lb3.length c4)∧w'.cell? ⟨(ad.add (i * 7)).block,(ad.add (i * 7)).off+1,none⟩=some (.int .i64 q.f1)) (go_keep)
            (first
             | (go_at_call 26;refine (HFIND.out _ (below_step HW11.out (by repeat (first|(with_reducible first|exact Below.refl _ _|apply below_alloc|apply pw_below_drewN|apply below_drew1)|exact Below.refl _ _)))).mono ?_;rintro e w12 ⟨he,hb⟩;subst he;have HW12:=Aside0.mk (below_step (below_step HW11.out (by repeat (first|(with_reducible first|exact Below.refl _ _|apply below_alloc|apply pw_below_drewN|apply below_drew1)|exact Below.refl _ _))) hb:Below w6.heap.size w6 w12);clear hb z1 k0 k1 k2 k3;have z1:=HZQ.out w12 HW12.out;obtain ⟨k0,k1,k2,k3⟩:=HKQ.out w12 HW12.out))
           all_goals
            (try go_wp2_with fail)
            (try (go_quiet (fail);go_wp2_with fail))
            go_roundg gg
            case measure=>omega
            case rel=>exact ⟨i+1,m3,bs3,lb3,A3,c3,A4,c4,by go_num,⟨by have:=HG.out;omega⟩,⟨HT6.out.below (below_step HW12.out (by repeat (first|(with_reducible first|exact Below.refl _ _|apply below_alloc|apply pw_below_drewN|apply below_drew1)|exact Below.refl _ _)))⟩,⟨HRT6.out.below (below_step HW12.out (by repeat (first|(with_reducible first|exact Below.refl _ _|apply below_alloc|apply pw_below_drewN|apply below_drew1)|exact Below.refl _ _)))⟩,HSB3,⟨blk_below HQ6.out (below_step HW12.out (by repeat (first|(with_reducible first|exact Below.refl _ _|apply below_alloc|apply pw_below_drewN|apply below_drew1)|exact Below.refl _ _)))⟩⟩
          ·
           rw [hx] at HGET
           obtain ⟨j,hj,hjf,hjg⟩:=find_some HT6.out.inv hx
           rw [hjf] at HFIND
           have HCR:=Aside0.mk (fun (W':World) (hb:Below w6.heap.size w6 W')=>cells_ref (Kd.R_reads' (Kd.R_below HRT6.out.rl hb)).2.2 j hj p (by rw [Go.Proofs.Ytpejjpecdkbleaa.Pure.rdp _ j hj];rw [List.getElem?_eq_getElem hj] at hjg;exact Option.some.inj hjg))
           have hj0:(0≤(j:Int))=True:=eq_true (by omega)
           have hjl:(j:Int) < ((listM m3).length:Int):=by omega
           clear hx hjf hjg
           go_wp2_with fail
           refine HGET.out.mono ?_
           rintro e w10 ⟨rfl,hb⟩
           have HW10:=Aside0.mk (below_step HW.out hb)
           clear hb z1 HGET
           go_wp2_with (refine store_new rfl 33 (.tmp 14) (.tmp 138) rfl w10.heap.size (peerC ((some p:Option Pr).getD z33)).toArray rfl rfl 33 _ (heap_alloc_new w10 _) info33z rfl (peer_one _) ?_;intro w11 hW11 hb11;have HW11:=Aside0.mk (below_step HW10.out (Below.trans (below_alloc (Below.refl _ _) _) hb11));have HX11:=Aside0.mk (show w11.heap[w10.heap.size]?=some (.cells (peerC p).toArray 33 (0,0)) from hW11);generalize w10.heap.size=g14 at HX11 ⊢;clear hW11 hb11 HW10)
           have z1:=HZQ.out w11 HW11.out
           obtain ⟨k0,k1,k2,k3⟩:=HKQ.out w11 HW11.out
           go_region_held3 (fun w'=>w'.cell? ⟨g8,0,none⟩=some (.int .i64 room)∧w'.cell? ⟨g8,1,none⟩=some (.int .i64 tmo)∧w'.cell? ⟨g8,2,none⟩=some (.slice A3 (listM m3).length c3)∧w'.cell? ⟨g8,3,none⟩=some (.slice A4 lb3.length c4)∧w'.cell? ⟨(ad.add (i * 7)).block,(ad.add (i * 7)).off+1,none⟩=some (.int .i64 q.f1)) (go_keep)
            (first
             | (go_at_call 26;refine (HFIND.out _ (below_step HW11.out (by repeat (first|(with_reducible first|exact Below.refl _ _|apply below_alloc|apply pw_below_drewN|apply below_drew1)|exact Below.refl _ _)))).mono ?_;rintro e w12 ⟨he,hb⟩;subst he;have HW12:=Aside0.mk (below_step (below_step HW11.out (by repeat (first|(with_reducible first|exact Below.refl _ _|apply below_alloc|apply pw_below_drewN|apply below_drew1)|exact Below.refl _ _))) hb:Below w6.heap.size w6 w12);have HX12:=Aside0.mk (blk_below HX11.out (below_step (by repeat (first|(with_reducible first|exact Below.refl _ _|apply below_alloc|apply pw_below_drewN|apply below_drew1)|exact Below.refl _ _)) hb));clear hb z1 k0 k1 k2 k3;have z1:=HZQ.out w12 HW12.out;obtain ⟨k0,k1,k2,k3⟩:=HKQ.out w12 HW12.out))
           all_goals
            (try go_wp2_with fail)
            have HXP:=Aside0.mk (fun (W':World) (hb:Below w12.heap.size w12 W')=>And.intro (show CellsP W' ⟨g14,0,none⟩ p from ⟨blk_cell (blk_below HX12.out hb) 0,blk_cell (blk_below HX12.out hb) 1,blk_cell (blk_below HX12.out hb) 2,blk_cell (blk_below HX12.out hb) 3,blk_cell (blk_below HX12.out hb) 4,blk_cell (blk_below HX12.out hb) 5,blk_cell (blk_below HX12.out hb) 6,blk_cell (blk_below HX12.out hb) 7,blk_cell (blk_below HX12.out hb) 8,blk_cell (blk_below HX12.out hb) 9⟩) (And.intro (HKQ.out W' (below_step HW12.out hb)).2.2.1 (HCR.out W' (below_step HW12.out hb))))
            clear z1 k0 k1 k3
            obtain ⟨⟨x0,x1,x2,x3,x4,x5,x6,x7,x8,x9⟩,k2',⟨ad6,hA6,y0,y1,y2,y3,y4,y5,y6,y7,y8,y9⟩⟩:=HXP.out w12 (Below.refl _ _)
            subst hA6
            clear k2'
            go_region_held3 (fun w'=>w'.cell? ⟨g8,2,none⟩=some (.slice (some ad6) (listM m3).length c3)∧w'.cell? ⟨g14,0,none⟩=some (.int .i64 p.f0)∧w'.cell? ⟨g14,1,none⟩=some (.int .i64 p.f1.f0)∧w'.cell? ⟨g14,2,none⟩=some (.int .i64 p.f1.f1)∧w'.cell? ⟨g14,3,none⟩=some (.string p.f2)∧w'.cell? ⟨g14,4,none⟩=some (.bool p.f3)∧w'.cell? ⟨g14,5,none⟩=some (.bool p.f4)∧w'.cell? ⟨g14,6,none⟩=some (.bool p.f5)∧w'.cell? ⟨g14,7,none⟩=some (.int .i64 p.f6)∧w'.cell? ⟨g14,8,none⟩=some (.int .i64 p.f7)∧w'.cell? ⟨g14,9,none⟩=some (.int .i64 p.f8)∧w'.cell? (ad6.add (j * 10))=some (.int .i64 p.f0)∧w'.cell? ⟨(ad6.add (j * 10)).block,(ad6.add (j * 10)).off+1,none⟩=some (.int .i64 p.f1.f0)∧w'.cell? ⟨(ad6.add (j * 10)).block,(ad6.add (j * 10)).off+2,none⟩=some (.int .i64 p.f1.f1)∧w'.cell? ⟨(ad6.add (j * 10)).block,(ad6.add (j * 10)).off+3,none⟩=some (.string p.f2)∧w'.cell? ⟨(ad6.add (j * 10)).block,(ad6.add (j * 10)).off+4,none⟩=some (.bool p.f3)∧w'.cell? ⟨(ad6.add (j * 10)).block,(ad6.add (j * 10)).off+5,none⟩=some (.bool p.f4)∧w'.cell? ⟨(ad6.add (j * 10)).block,(ad6.add (j * 10)).off+6,none⟩=some (.bool p.f5)∧w'.cell? ⟨(ad6.add (j * 10)).block,(ad6.add (j * 10)).off+7,none⟩=some (.int .i64 p.f6)∧w'.cell? ⟨(ad6.add (j * 10)).block,(ad6.add (j * 10)).off+8,none⟩=some (.int .i64 p.f7)∧w'.cell? ⟨(ad6.add (j * 10)).block,(ad6.add (j * 10)).off+9,none⟩=some (.int .i64 p.f8)) (go_keep)
             (first
              | (go_at_call 25;refine (ref18 p _).mono ?_;rintro e w13 ⟨he,hb⟩;subst he;have HW13:=Aside0.mk (below_step (by repeat (first|(with_reducible first|exact Below.refl _ _|apply below_alloc|apply pw_below_drewN|apply below_drew1)|exact Below.refl _ _)) hb:Below w12.heap.size w12 w13);clear hb k2 x0 x1 x2 x3 x4 x5 x6 x7 x8 x9 y0 y1 y2 y3 y4 y5 y6 y7 y8 y9;obtain ⟨⟨x0,x1,x2,x3,x4,x5,x6,x7,x8,x9⟩,k2,⟨ad6_,hA6,y0,y1,y2,y3,y4,y5,y6,y7,y8,y9⟩⟩:=HXP.out w13 HW13.out;obtain rfl:=Option.some.inj hA6;clear hA6))
            all_goals
             (try go_wp2_with fail)
             go_roundg gg
             case measure=>omega
             case rel=>exact ⟨i+1,m3,bs3,lb3,_,c3,A4,c4,by go_num,⟨by have:=HG.out;omega⟩,⟨HT6.out.below (below_step HW12.out (below_step HW13.out (by repeat (first|(with_reducible first|exact Below.refl _ _|apply below_alloc|apply pw_below_drewN|apply below_drew1)|exact Below.refl _ _))))⟩,⟨HRT6.out.below (below_step HW12.out (below_step HW13.out (by repeat (first|(with_reducible first|exact Below.refl _ _|apply below_alloc|apply pw_below_drewN|apply below_drew1)|exact Below.refl _ _))))⟩,HSB3,⟨blk_below HQ6.out (below_step HW12.out (below_step HW13.out (by repeat (first|(with_reducible first|exact Below.refl _ _|apply below_alloc|apply pw_below_drewN|apply below_drew1)|exact Below.refl _ _))))⟩⟩
    ·
     go_wp2
     go_ret
     exact ⟨rfl,HT.out.bel⟩
   ·
    go_wp2
    go_ret
    exact ⟨rfl,HT.out.bel⟩
 ·
  have HNN:=Aside0.mk htm
  by_cases h0:room < 1
  rotate_left
  by_cases h1:15 < room
  rotate_left
  by_cases h2:tmo < 1
  rotate_left
  have h3:1099511627776 < tmo:=by omega
  all_goals
   clear htm
   go_enter Try.func6,Try.ntmps6
   go_wp2_with fail
   refine (Print.new_no room tmo w HNN.out).mono ?_
   rintro e W1 ⟨rfl,hb1⟩
   have HB1:=Aside0.mk hb1
   clear hb1
   go_wp2_with fail
   refine (awake18 _).mono ?_
   rintro e W2 ⟨rfl,hb⟩
   have HB2:=Aside0.mk (below_step HB1.out hb)
   clear hb HB1
   go_wp2_with fail
   go_ret
   exact ⟨rfl,HB2.out⟩
end Go.Proofs.Ytpejjpecdkbleaa.Print
/-! #### StmPeersPlays -/
namespace Go.Proofs.Ytpejjpecdkbleaa.Print
open Go.RowKit Go.Proofs.YtpejjpecdkbleaaW.PrintWords
/-- THE ONE PURE STATEMENT of mosaiclaw18_PeersPlays. -/
def mosaiclaw18_PeersPlays.Pure:Prop:=∀ (a0:Int) (a1:Int) (l2:List (S42)),((Lit.int .i64 a0).wf=true)→((Lit.int .i64 a1).wf=true)→((l2:List (S42)).length≤maxLen∧∀ x1_∈(l2:List (S42)),((Lit.int .i64 (x1_).f0).wf=true)∧((Lit.int .i64 (x1_).f1).wf=true)∧((Lit.int .i64 (x1_).f2).wf=true)∧(((Lit.int .i64 ((x1_).f3).f0).wf=true)∧((Lit.int .i64 ((x1_).f3).f1).wf=true))∧(((x1_).f4:ByteArray).size≤maxLen)∧(True))→mosaiclaw18_PeersPlays.f a0 a1 l2=some true
end Go.Proofs.Ytpejjpecdkbleaa.Print
/-! #### PurePeersPlays -/
/- The pure statement of PeersPlays. -/
namespace Go.Proofs.Ytpejjpecdkbleaa.Pure
open Go.RowKit Go.Proofs.Ytpejjpecdkbleaa.Print Go.Proofs.YtpejjpecdkbleaaW.PrintWords
set_option linter.unusedVariables false
theorem PeersPlays:mosaiclaw18_PeersPlays.Pure:=by
 unfold mosaiclaw18_PeersPlays.Pure
 intros
 rfl
end Go.Proofs.Ytpejjpecdkbleaa.Pure
/-! #### LawPeersPlays -/
/- The given statement PeersPlaysSaid is proved: the law mosaiclaw18_PeersPlays returns true for every input, without a panic; out of its pure statement (YtpejjpecdkbleaaPurePeersPlays) and the walks of the functions that it reaches; no condition beyond the statement's own. -/
namespace Go.Proofs.Ytpejjpecdkbleaa.peersPlays
open Go.ChangeShapes Go.WideShapes Go.ChangeAt Go.RowKit Go.Proofs.Ytpejjpecdkbleaa.Print Go.Proofs.YtpejjpecdkbleaaW.PrintWords Go.Proofs.Ytpejjpecdkbleaa.Open
open Go.ChangeMaps (open_string shut_string)
set_option linter.unusedVariables false
set_option linter.unusedSimpArgs false
theorem own:ownKnob Try.prog.godebug=none:=by kernel_rfl
theorem laidOut:laidOutB Try.prog=true:=by kernel_rfl
set_option maxRecDepth 100000 in
theorem lifted (os:Os) (started:os.Started) (H:Type) (enc:TypeId×Value→H) :
  ReturnsInHanded {} Try.checked os 6 .any (Rows.peersPlaysSpec.pre6 enc Try.prog Try.f6 Rows.peersPlaysRow.domain false) (Rows.peersPlaysSpec.post enc Try.prog Try.f6 false true false false):=by
 refine returnsInHanded_of_change_sized (C:=Try.checked) own started (by kernel_rfl) Try.func6
  (ChangeSpec.witness6 (enc:=enc) (C:=Try.checked) false ⟨#[],#[.int .i64 0,.int .i64 0,.slice none 0 0],[]⟩ 8 (by kernel_rfl) (by kernel_rfl) (by kernel_rfl) (by kernel_rfl)) ?_
 intro W base args ds gs before hval0 hW hcnd hsz0 _
 have hval:∀ (j:Nat) t v,Try.f6.params[j]?=some t→args[j]?=some v→Value.okWide Try.prog W .any base t v:=hval0
 have hW':=hW
 obtain ⟨p,q,hA0,hV,rfl,hfz,hnd⟩:=hW
 have hA:DataW.TrodAll enc Try.prog W 0 (fun _=>true) true Try.f6.params.toList args.toList ds p:=hA0
 rw [Try.params6] at hA hval
 obtain ⟨v0,vs0,d0,ds0,p0,q0,hargs,rfl,rfl,h0,r0⟩:=trodAll_cons hA
 obtain ⟨v1,vs1,d1,ds1,p1,q1,rfl,rfl,rfl,h1,r1⟩:=trodAll_cons r0
 obtain ⟨v2,vs2,d2,ds2,p2,q2,rfl,rfl,rfl,h2,r2⟩:=trodAll_cons r1
 obtain ⟨rfl,rfl,rfl⟩:=trodAll_nil r2
 obtain rfl:args=#[v0,v1,v2]:=by cases args;simp_all
 obtain ⟨rfl,rfl⟩:=trodVars_none hV
 obtain ⟨a0,rfl,rfl,rfl,w0⟩:=open_int Try.underlying3 (hval 0 3 v0 rfl rfl) h0
 obtain ⟨a1,rfl,rfl,rfl,w1⟩:=open_int Try.underlying3 (hval 1 3 v1 rfl rfl) h1
 have lt2:∀ x∈p2,x.block < W.heap.size:=by obtain ⟨m,hm⟩:=h2;exact DataW.trod_lt m _ _ _ hm
 have k2:=h2
 have one2:v2.cells.toList=[v2]:=by obtain ⟨a_,len_,cap_,rfl⟩:=okWide_slice Try.underlying39 (hval 2 39 v2 rfl rfl);rfl
 obtain ⟨A2,c2,l2,rfl,hc2,hr2,hq2⟩:=arg_slice opens39 one2 h2
 clear hA0 hval0 hsz0
 have hkk:=Pure.PeersPlays (a0) (a1) (l2) w0 w1 hq2
 refine (mosaiclaw18_PeersPlays.calls a0 a1 A2 c2 l2 true W hr2 hc2 hkk).mono ?_
 rintro e W' ⟨rfl,hd_⟩
 have bel:Below W.heap.size W W':=hd_
 exact ⟨_,rfl,_,_,_,[],_,[],hW',trodAll_mk1 (shut_bool Try.underlying4 _),(trodAll_cons_mk (shut_int Try.underlying3 w0) (trodAll_cons_mk (shut_int Try.underlying3 w1) (trodAll_cons_mk (Below.trod laidOut (by kernel_rfl) (of_decide_eq_true (by kernel_rfl)) k2 bel lt2) trodAll_mk0))),rfl,bel.frame _,fun h=>by cases h⟩
theorem facts:joinedFacts Try.pinned.checked.prog 6 Try.f6 Rows.peersPlaysSpec Rows.peersPlaysRow=true:=by
 unfold joinedFacts
 simp only [Bool.and_eq_true]
 repeat' apply And.intro
 any_goals (with_reducible exact Fct.mayEnter)
 any_goals ((with_reducible refine Fct.lifts _ ?_);rfl)
 any_goals ((with_reducible refine Fct.make_ _ ?_);rfl)
 all_goals (as_aux_lemma=>kernel_rfl)
theorem over:Rows.peersPlaysRow.holds Try.pinned (OpenSpec.ofChange Rows.peersPlaysSpec) :=
 OpenClaim.holds_of_wide 6 Try.f6 rfl rfl rfl rfl rfl rfl rfl ⟨rfl,rfl,rfl,rfl,rfl⟩ rfl rfl rfl rfl rfl (by as_aux_lemma=>kernel_rfl) Try.func6 facts
  (of_decide_eq_true (by as_aux_lemma=>kernel_rfl)) (by unfold Func.isWrapper;first|(rw [if_pos (by decide +kernel)];as_aux_lemma=>kernel_rfl)|(rw [if_neg (by decide +kernel)];exact ⟨rfl,rfl⟩))
  (fun os started H enc _=>lifted os started H enc)
theorem proved:Rows.PeersPlaysSaid:=over
#print axioms proved
end Go.Proofs.Ytpejjpecdkbleaa.peersPlays
namespace Go.Proofs.Ytpejjpecdkbleaa
/-- The row, under a short name, for the claim. -/
theorem peersPlays_holds:Rows.PeersPlaysSaid:=peersPlays.proved
end Go.Proofs.Ytpejjpecdkbleaa
