/- The proof of the statement PeersPlays of the seat, part 3 of 6: the functions that it reaches, as plain functions, with the walks that show it, and what they come to; the last part ends in the row. No condition beyond the statement's own. -/
import Derived.IntWalk
import Derived.BigQuiet
import Derived.Deep.QuietTactic
import Derived.Deep.RegionLaw
import Derived.RegionTactic
import Derived.Outline
import Derived.Laws.CopyOwn
import Derived.Test.YtpejjpecdkbleaaBPeersPlays1
import Derived.Test.YtpejjpecdkbleaaBPeersPlays2
/-! #### MaPeersRates -/
/- The law PeersRates, by hand. -/
namespace Go.Proofs.Ytpejjpecdkbleaa.Print
open Go.RowKit Go.Proofs.YtpejjpecdkbleaaW.PrintWords Go.Proofs.YtpejjpecdkbleaaW.PrintLast Go.Proofs.YtpejjpecdkbleaaW.PrintMore
attribute [local go_sem] max2_int min2_int max_two min_two max_three min_three max_four min_four
set_option linter.unusedVariables false
set_option linter.unusedSimpArgs false
/-- A whole struct is stored into a block of its size: what lies below it stays. -/
theorem store_new {ops:Array Oper} {rest:List Oper} {o:Oper} {a:Act} {w:World} {Q:Exit→Act→World→Prop} {P:Program} (hgd:o.guard=none) (ty:TypeId) (x y:Operand) (ho:o.op=.store ty x y)
  (g:Nat) (cells:Array Value) (hx:a.eval x=.pointer (some ⟨g,0,none⟩)) (hy:a.eval y=.agg cells)
  (t:TypeId) (old:Array Value) (hg:w.heap[g]?=some (.cells old t (0,0))) (hi:(P.info? ty).map (·.size)=some cells.size)
  (hold:old.size=cells.size) (h1:cells.all (·.oneCell')=true)
  (h:∀ W',W'.heap[g]?=some (.cells cells t (0,0))→Below g w W'→wpList P ops Q rest (a.put o.dst undef) W'):wpList P ops Q (o :: rest) a w :=
 wpList_store_row hgd ty x y ho g cells hx hy t old hg hi hold h1 (h _ (setRow_heap _ _ _ _ _ _ hg) (below_setRow (Below.refl _ _) (Nat.le_refl _) _))
theorem withC_some {m:PM} {n:Int} {p:Pr} (h:atM m n=some p):withC m n=0:=by unfold withC;rw [h]
theorem setM_some {m:PM} {n:Int} {p:Pr} (h:atM m n=some p) (f:Pr→Pr):setM m n f=m.set n.toNat (some (f p)):=by unfold setM;rw [h]
/-- The table of PeersRates: peer 2 alone. -/
def ratesM (p:Pr):PM:=aw0.set 2 (some p)
theorem ratesM_at (p:Pr):atM (ratesM p) 2=some p:=rfl
theorem ratesM_set (p:Pr) (f:Pr→Pr):setM (ratesM p) 2 f=ratesM (f p):=by rw [setM_some (ratesM_at p)];rfl
theorem ratesM_roll (p:Pr):(ratesM p).map (Option.map roll1)=ratesM (roll1 p):=rfl
def mosaiclaw18_PeersRates.f (l0:List Int) (l1:List Bool):Option Bool:=some true
set_option maxHeartbeats 4000000 in
set_option maxRecDepth 100000 in
theorem mosaiclaw18_PeersRates.calls (A0:Option Addr) (c0:Nat) (l0:List Int) (A1:Option Addr) (c1:Nat) (l1:List Bool) (r:Bool) (w:World) (hr0:Kd.C (Kd.int .i64) w A0 l0.length l0) (hc0:l0.length≤c0) (hr1:Kd.C Kd.bool w A1 l1.length l1) (hc1:l1.length≤c1) (h:mosaiclaw18_PeersRates.f l0 l1=some r) :
  Calls Try.prog 3 #[.slice A0 l0.length c0,.slice A1 l1.length c1] w fun e w'=>e=.returned (.bool r)∧Below w.heap.size w w':=by
 obtain rfl:=Option.some.inj (show some true=some r from h)
 clear h
 have HR0:=Aside0.mk hr0
 have HR1:=Aside0.mk hr1
 clear hr0 hr1 hc0 hc1
 have a1:meetC 3 aw0 noB 2 1 0 0=0∧meetM 3 aw0 noB 2 1 0 0=ratesM (met 2 1 0 0):=⟨rfl,rfl⟩
 have A1':=Aside0.mk a1
 clear a1
 go_enter Try.func3,Try.ntmps3
 go_wp2_with fail
 refine (PT_new 3 9 w (by decide)).mono ?_
 rintro e W1 ⟨g,rfl,t⟩
 have T1:=Aside0.mk (show PT w W1 g 3 9 aw0 noB from t)
 clear t
 go_wp2_with fail
 refine (awake18 _).mono ?_
 rintro e W2 ⟨rfl,hb⟩
 have T2:=Aside0.mk (T1.out.below hb)
 clear hb T1
 go_wp2_with fail
 refine (T2.out.Meet_any 2 1 0 0).mono ?_
 rintro e W3 ⟨he,d⟩
 rw [A1'.out.1] at he
 rw [A1'.out.2] at d
 subst he
 have T3:=Aside0.mk d.pt
 clear d T2
 go_wp2_with fail
 go_loopg [6,7,8] 41 (fun gg v6 v7 v8 wr=>∃ (i:Nat) (p:Pr),v8=.int .i64 i∧v6=.int .i64 p.f7∧v7=.int .i64 p.f8∧Aside0 (i+gg=41)∧Aside0 (PT w wr g 3 9 (ratesM p) noB))
 case atStart=>exact ⟨0,_,rfl,rfl,rfl,⟨rfl⟩,T3⟩
 case round =>
  clear T3
  obtain ⟨i,p,rfl,rfl,rfl,HG,HT⟩:=hrel
  by_cases hlt:(i:Int) < (l0.length:Int)
  ·
   by_cases h40:(i:Int) < 40
   ·
    obtain ⟨gg,rfl⟩:∃ m,gk=m+1:=⟨gk - 1,by have:=HG.out;omega⟩
    obtain ⟨ad,hA,hx⟩:=Kd.at_int HR0.out (i:Int) (by omega) hlt
    rw [Int.toNat_natCast] at hx
    subst hA
    generalize rd l0 (i:Int)=n at hx
    have HX:=Aside0.mk hx
    clear hx
    have hx:wr.cell? (ad.add i)=some (.int .i64 n):=(HT.out.bel.cell (World.block_lt_of_cell? w _ HX.out)).trans HX.out
    go_wp2_with fail
    refine (HT.out.Count_any 2 n).mono ?_
    rw [withC_some (ratesM_at p),ratesM_set]
    rintro e W4 ⟨he,d⟩
    by_cases ht:tickB n=true
    ·
     rw [if_pos ht] at he
     rw [if_pos ht] at d
     subst he
     have HT4:=Aside0.mk d.pt
     have ht2:0≤n∧n≤1099511627776:=of_decide_eq_true ht
     obtain ⟨ht3,ht4⟩:=ht2
     have hpb:=(HT.out.inv.node 2 p rfl).2.2.2
     obtain ⟨hq1,hq2⟩:=hpb
     have hmn:mn (p.f7+n) 1099511627776=mn (p.f7+n) 1099511627776:=rfl
     clear d ht HT hmn
     have hx:W4.cell? (ad.add i)=some (.int .i64 n):=(HT4.out.bel.cell (World.block_lt_of_cell? w _ HX.out)).trans HX.out
     by_cases hM:p.f7+n≤1099511627776
     ·
      have hmn:mn (p.f7+n) 1099511627776=p.f7+n:=by unfold mn;split <;> omega
      rw [hmn] at HT4
      clear hmn
      by_cases hj:(i:Int) < (l1.length:Int)
      ·
       obtain ⟨ad1,hA1,hy⟩:=Kd.at_bool HR1.out (i:Int) (by omega) hj
       rw [Int.toNat_natCast] at hy
       subst hA1
       generalize rdOf false l1 (i:Int)=b at hy
       have HY:=Aside0.mk hy
       clear hy
       have hy:W4.cell? (ad1.add i)=some (.bool b):=(HT4.out.bel.cell (World.block_lt_of_cell? w _ HY.out)).trans HY.out
       cases b with
       | false =>
        go_wp2_with fail
        refine (HT4.out.Get_any 2).mono ?_
        rintro e W5 ⟨rfl,hb⟩
        have HT5:=Aside0.mk (HT4.out.below hb)
        clear hb hx hy
        go_wp2_with (refine store_new rfl 33 (.tmp 11) (.tmp 82) rfl W5.heap.size (peerC { p with f7:=p.f7+n }).toArray rfl rfl 33 _ (heap_alloc_new W5 _) info33z rfl (peer_one _) ?_;intro W6 hW6 hb6;have HT6:=Aside0.mk (HT5.out.below (Below.trans (below_alloc (Below.refl _ _) _) hb6));have cn:=(blk_cell hW6 8).trans (show (peerC { p with f7:=p.f7+n }).toArray[8]?=some (.int .i64 (p.f7+n)) from rfl);have cr:=(blk_cell hW6 9).trans (show (peerC { p with f7:=p.f7+n }).toArray[9]?=some (.int .i64 p.f8) from rfl);clear hW6 hb6)
        go_roundg gg
        case measure=>omega
        case rel=>exact ⟨i+1,{ p with f7:=p.f7+n },by go_num,rfl,rfl,⟨by have:=HG.out;omega⟩,HT6⟩
       | true =>
        go_wp2_with fail
        refine HT4.out.Roll_any.mono ?_
        rintro e W5 ⟨rfl,d⟩
        rw [ratesM_roll] at d
        have HT5:=Aside0.mk d.pt
        clear d hx hy
        go_wp2_with fail
        refine (HT5.out.Get_any 2).mono ?_
        rintro e W6 ⟨rfl,hb⟩
        have HT6:=Aside0.mk (HT5.out.below hb)
        clear hb
        go_wp2_with (refine store_new rfl 33 (.tmp 11) (.tmp 82) rfl W6.heap.size (peerC (roll1 { p with f7:=p.f7+n })).toArray rfl rfl 33 _ (heap_alloc_new W6 _) info33z rfl (peer_one _) ?_;intro W7 hW7 hb7;have HT7:=Aside0.mk (HT6.out.below (Below.trans (below_alloc (Below.refl _ _) _) hb7));have cn:=(blk_cell hW7 8).trans (show (peerC (roll1 { p with f7:=p.f7+n })).toArray[8]?=some (.int .i64 0) from rfl);have cr:=(blk_cell hW7 9).trans (show (peerC (roll1 { p with f7:=p.f7+n })).toArray[9]?=some (.int .i64 (p.f7+n)) from rfl);clear hW7 hb7)
        go_roundg gg
        case measure=>omega
        case rel=>exact ⟨i+1,roll1 { p with f7:=p.f7+n },by go_num,rfl,rfl,⟨by have:=HG.out;omega⟩,HT7⟩
      ·
       go_wp2_with fail
       refine (HT4.out.Get_any 2).mono ?_
       rintro e W5 ⟨rfl,hb⟩
       have HT5:=Aside0.mk (HT4.out.below hb)
       clear hb hx
       go_wp2_with (refine store_new rfl 33 (.tmp 11) (.tmp 82) rfl W5.heap.size (peerC { p with f7:=p.f7+n }).toArray rfl rfl 33 _ (heap_alloc_new W5 _) info33z rfl (peer_one _) ?_;intro W6 hW6 hb6;have HT6:=Aside0.mk (HT5.out.below (Below.trans (below_alloc (Below.refl _ _) _) hb6));have cn:=(blk_cell hW6 8).trans (show (peerC { p with f7:=p.f7+n }).toArray[8]?=some (.int .i64 (p.f7+n)) from rfl);have cr:=(blk_cell hW6 9).trans (show (peerC { p with f7:=p.f7+n }).toArray[9]?=some (.int .i64 p.f8) from rfl);clear hW6 hb6)
       go_roundg gg
       case measure=>omega
       case rel=>exact ⟨i+1,{ p with f7:=p.f7+n },by go_num,rfl,rfl,⟨by have:=HG.out;omega⟩,HT6⟩
     ·
      have hmn:mn (p.f7+n) 1099511627776=1099511627776:=by unfold mn;split <;> omega
      rw [hmn] at HT4
      clear hmn
      have hM2:1099511627776 < p.f7+n:=by omega
      by_cases hj:(i:Int) < (l1.length:Int)
      ·
       obtain ⟨ad1,hA1,hy⟩:=Kd.at_bool HR1.out (i:Int) (by omega) hj
       rw [Int.toNat_natCast] at hy
       subst hA1
       generalize rdOf false l1 (i:Int)=b at hy
       have HY:=Aside0.mk hy
       clear hy
       have hy:W4.cell? (ad1.add i)=some (.bool b):=(HT4.out.bel.cell (World.block_lt_of_cell? w _ HY.out)).trans HY.out
       cases b with
       | false =>
        go_wp2_with fail
        refine (HT4.out.Get_any 2).mono ?_
        rintro e W5 ⟨rfl,hb⟩
        have HT5:=Aside0.mk (HT4.out.below hb)
        clear hb hx hy
        go_wp2_with (refine store_new rfl 33 (.tmp 11) (.tmp 82) rfl W5.heap.size (peerC { p with f7:=1099511627776 }).toArray rfl rfl 33 _ (heap_alloc_new W5 _) info33z rfl (peer_one _) ?_;intro W6 hW6 hb6;have HT6:=Aside0.mk (HT5.out.below (Below.trans (below_alloc (Below.refl _ _) _) hb6));have cn:=(blk_cell hW6 8).trans (show (peerC { p with f7:=1099511627776 }).toArray[8]?=some (.int .i64 1099511627776) from rfl);have cr:=(blk_cell hW6 9).trans (show (peerC { p with f7:=1099511627776 }).toArray[9]?=some (.int .i64 p.f8) from rfl);clear hW6 hb6)
        go_roundg gg
        case measure=>omega
        case rel=>exact ⟨i+1,{ p with f7:=1099511627776 },by go_num,rfl,rfl,⟨by have:=HG.out;omega⟩,HT6⟩
       | true =>
        go_wp2_with fail
        refine HT4.out.Roll_any.mono ?_
        rintro e W5 ⟨rfl,d⟩
        rw [ratesM_roll] at d
        have HT5:=Aside0.mk d.pt
        clear d hx hy
        go_wp2_with fail
        refine (HT5.out.Get_any 2).mono ?_
        rintro e W6 ⟨rfl,hb⟩
        have HT6:=Aside0.mk (HT5.out.below hb)
        clear hb
        go_wp2_with (refine store_new rfl 33 (.tmp 11) (.tmp 82) rfl W6.heap.size (peerC (roll1 { p with f7:=1099511627776 })).toArray rfl rfl 33 _ (heap_alloc_new W6 _) info33z rfl (peer_one _) ?_;intro W7 hW7 hb7;have HT7:=Aside0.mk (HT6.out.below (Below.trans (below_alloc (Below.refl _ _) _) hb7));have cn:=(blk_cell hW7 8).trans (show (peerC (roll1 { p with f7:=1099511627776 })).toArray[8]?=some (.int .i64 0) from rfl);have cr:=(blk_cell hW7 9).trans (show (peerC (roll1 { p with f7:=1099511627776 })).toArray[9]?=some (.int .i64 1099511627776) from rfl);clear hW7 hb7)
        go_roundg gg
        case measure=>omega
        case rel=>exact ⟨i+1,roll1 { p with f7:=1099511627776 },by go_num,rfl,rfl,⟨by have:=HG.out;omega⟩,HT7⟩
      ·
       go_wp2_with fail
       refine (HT4.out.Get_any 2).mono ?_
       rintro e W5 ⟨rfl,hb⟩
       have HT5:=Aside0.mk (HT4.out.below hb)
       clear hb hx
       go_wp2_with (refine store_new rfl 33 (.tmp 11) (.tmp 82) rfl W5.heap.size (peerC { p with f7:=1099511627776 }).toArray rfl rfl 33 _ (heap_alloc_new W5 _) info33z rfl (peer_one _) ?_;intro W6 hW6 hb6;have HT6:=Aside0.mk (HT5.out.below (Below.trans (below_alloc (Below.refl _ _) _) hb6));have cn:=(blk_cell hW6 8).trans (show (peerC { p with f7:=1099511627776 }).toArray[8]?=some (.int .i64 1099511627776) from rfl);have cr:=(blk_cell hW6 9).trans (show (peerC { p with f7:=1099511627776 }).toArray[9]?=some (.int .i64 p.f8) from rfl);clear hW6 hb6)
       go_roundg gg
       case measure=>omega
       case rel=>exact ⟨i+1,{ p with f7:=1099511627776 },by go_num,rfl,rfl,⟨by have:=HG.out;omega⟩,HT6⟩
    ·
     rw [if_neg ht] at he
     rw [if_neg ht] at d
     subst he
     have HT4:=Aside0.mk d.pt
     have ht2:¬ (0≤n∧n≤1099511627776):=fun h=>ht (decide_eq_true h)
     clear d ht HT
     have hx:W4.cell? (ad.add i)=some (.int .i64 n):=(HT4.out.bel.cell (World.block_lt_of_cell? w _ HX.out)).trans HX.out
     by_cases ht3:n < 0
     ·
      clear ht2
      by_cases hj:(i:Int) < (l1.length:Int)
      ·
       obtain ⟨ad1,hA1,hy⟩:=Kd.at_bool HR1.out (i:Int) (by omega) hj
       rw [Int.toNat_natCast] at hy
       subst hA1
       generalize rdOf false l1 (i:Int)=b at hy
       have HY:=Aside0.mk hy
       clear hy
       have hy:W4.cell? (ad1.add i)=some (.bool b):=(HT4.out.bel.cell (World.block_lt_of_cell? w _ HY.out)).trans HY.out
       cases b with
       | false =>
        go_wp2_with fail
        refine (HT4.out.Get_any 2).mono ?_
        rintro e W5 ⟨rfl,hb⟩
        have HT5:=Aside0.mk (HT4.out.below hb)
        clear hb hx hy
        go_wp2_with (refine store_new rfl 33 (.tmp 11) (.tmp 82) rfl W5.heap.size (peerC p).toArray rfl rfl 33 _ (heap_alloc_new W5 _) info33z rfl (peer_one _) ?_;intro W6 hW6 hb6;have HT6:=Aside0.mk (HT5.out.below (Below.trans (below_alloc (Below.refl _ _) _) hb6));have cn:=(blk_cell hW6 8).trans (show (peerC p).toArray[8]?=some (.int .i64 p.f7) from rfl);have cr:=(blk_cell hW6 9).trans (show (peerC p).toArray[9]?=some (.int .i64 p.f8) from rfl);clear hW6 hb6)
        go_roundg gg
        case measure=>omega
        case rel=>exact ⟨i+1,p,by go_num,rfl,rfl,⟨by have:=HG.out;omega⟩,HT6⟩
       | true =>
        go_wp2_with fail
        refine HT4.out.Roll_any.mono ?_
        rintro e W5 ⟨rfl,d⟩
        rw [ratesM_roll] at d
        have HT5:=Aside0.mk d.pt
        clear d hx hy
        go_wp2_with fail
        refine (HT5.out.Get_any 2).mono ?_
        rintro e W6 ⟨rfl,hb⟩
        have HT6:=Aside0.mk (HT5.out.below hb)
        clear hb
        go_wp2_with (refine store_new rfl 33 (.tmp 11) (.tmp 82) rfl W6.heap.size (peerC (roll1 p)).toArray rfl rfl 33 _ (heap_alloc_new W6 _) info33z rfl (peer_one _) ?_;intro W7 hW7 hb7;have HT7:=Aside0.mk (HT6.out.below (Below.trans (below_alloc (Below.refl _ _) _) hb7));have cn:=(blk_cell hW7 8).trans (show (peerC (roll1 p)).toArray[8]?=some (.int .i64 0) from rfl);have cr:=(blk_cell hW7 9).trans (show (peerC (roll1 p)).toArray[9]?=some (.int .i64 p.f7) from rfl);clear hW7 hb7)
        go_roundg gg
        case measure=>omega
        case rel=>exact ⟨i+1,roll1 p,by go_num,rfl,rfl,⟨by have:=HG.out;omega⟩,HT7⟩
      ·
       go_wp2_with fail
       refine (HT4.out.Get_any 2).mono ?_
       rintro e W5 ⟨rfl,hb⟩
       have HT5:=Aside0.mk (HT4.out.below hb)
       clear hb hx
       go_wp2_with (refine store_new rfl 33 (.tmp 11) (.tmp 82) rfl W5.heap.size (peerC p).toArray rfl rfl 33 _ (heap_alloc_new W5 _) info33z rfl (peer_one _) ?_;intro W6 hW6 hb6;have HT6:=Aside0.mk (HT5.out.below (Below.trans (below_alloc (Below.refl _ _) _) hb6));have cn:=(blk_cell hW6 8).trans (show (peerC p).toArray[8]?=some (.int .i64 p.f7) from rfl);have cr:=(blk_cell hW6 9).trans (show (peerC p).toArray[9]?=some (.int .i64 p.f8) from rfl);clear hW6 hb6)
       go_roundg gg
       case measure=>omega
       case rel=>exact ⟨i+1,p,by go_num,rfl,rfl,⟨by have:=HG.out;omega⟩,HT6⟩
     ·
      have ht4:1099511627776 < n:=by omega
      clear ht2
      by_cases hj:(i:Int) < (l1.length:Int)
      ·
       obtain ⟨ad1,hA1,hy⟩:=Kd.at_bool HR1.out (i:Int) (by omega) hj
       rw [Int.toNat_natCast] at hy
       subst hA1
       generalize rdOf false l1 (i:Int)=b at hy
       have HY:=Aside0.mk hy
       clear hy
       have hy:W4.cell? (ad1.add i)=some (.bool b):=(HT4.out.bel.cell (World.block_lt_of_cell? w _ HY.out)).trans HY.out
       cases b with
       | false =>
        go_wp2_with fail
        refine (HT4.out.Get_any 2).mono ?_
        rintro e W5 ⟨rfl,hb⟩
        have HT5:=Aside0.mk (HT4.out.below hb)
        clear hb hx hy
        go_wp2_with (refine store_new rfl 33 (.tmp 11) (.tmp 82) rfl W5.heap.size (peerC p).toArray rfl rfl 33 _ (heap_alloc_new W5 _) info33z rfl (peer_one _) ?_;intro W6 hW6 hb6;have HT6:=Aside0.mk (HT5.out.below (Below.trans (below_alloc (Below.refl _ _) _) hb6));have cn:=(blk_cell hW6 8).trans (show (peerC p).toArray[8]?=some (.int .i64 p.f7) from rfl);have cr:=(blk_cell hW6 9).trans (show (peerC p).toArray[9]?=some (.int .i64 p.f8) from rfl);clear hW6 hb6)
        go_roundg gg
        case measure=>omega
        case rel=>exact ⟨i+1,p,by go_num,rfl,rfl,⟨by have:=HG.out;omega⟩,HT6⟩
       | true =>
        go_wp2_with fail
        refine HT4.out.Roll_any.mono ?_
        rintro e W5 ⟨rfl,d⟩
        rw [ratesM_roll] at d
        have HT5:=Aside0.mk d.pt
        clear d hx hy
        go_wp2_with fail
        refine (HT5.out.Get_any 2).mono ?_
        rintro e W6 ⟨rfl,hb⟩
        have HT6:=Aside0.mk (HT5.out.below hb)
        clear hb
        go_wp2_with (refine store_new rfl 33 (.tmp 11) (.tmp 82) rfl W6.heap.size (peerC (roll1 p)).toArray rfl rfl 33 _ (heap_alloc_new W6 _) info33z rfl (peer_one _) ?_;intro W7 hW7 hb7;have HT7:=Aside0.mk (HT6.out.below (Below.trans (below_alloc (Below.refl _ _) _) hb7));have cn:=(blk_cell hW7 8).trans (show (peerC (roll1 p)).toArray[8]?=some (.int .i64 0) from rfl);have cr:=(blk_cell hW7 9).trans (show (peerC (roll1 p)).toArray[9]?=some (.int .i64 p.f7) from rfl);clear hW7 hb7)
        go_roundg gg
        case measure=>omega
        case rel=>exact ⟨i+1,roll1 p,by go_num,rfl,rfl,⟨by have:=HG.out;omega⟩,HT7⟩
      ·
       go_wp2_with fail
       refine (HT4.out.Get_any 2).mono ?_
       rintro e W5 ⟨rfl,hb⟩
       have HT5:=Aside0.mk (HT4.out.below hb)
       clear hb hx
       go_wp2_with (refine store_new rfl 33 (.tmp 11) (.tmp 82) rfl W5.heap.size (peerC p).toArray rfl rfl 33 _ (heap_alloc_new W5 _) info33z rfl (peer_one _) ?_;intro W6 hW6 hb6;have HT6:=Aside0.mk (HT5.out.below (Below.trans (below_alloc (Below.refl _ _) _) hb6));have cn:=(blk_cell hW6 8).trans (show (peerC p).toArray[8]?=some (.int .i64 p.f7) from rfl);have cr:=(blk_cell hW6 9).trans (show (peerC p).toArray[9]?=some (.int .i64 p.f8) from rfl);clear hW6 hb6)
       go_roundg gg
       case measure=>omega
       case rel=>exact ⟨i+1,p,by go_num,rfl,rfl,⟨by have:=HG.out;omega⟩,HT6⟩
   ·
    go_wp2
    go_ret
    exact ⟨rfl,HT.out.bel⟩
  ·
   go_wp2
   go_ret
   exact ⟨rfl,HT.out.bel⟩
end Go.Proofs.Ytpejjpecdkbleaa.Print
/-! #### MaPeers13 -/
/- peers: the reference's Ban, by hand; the document's table in memory. -/
namespace Go.Proofs.Ytpejjpecdkbleaa.Print
open Go.RowKit Go.Proofs.YtpejjpecdkbleaaW.PrintWords Go.Proofs.YtpejjpecdkbleaaW.PrintLast Go.Proofs.YtpejjpecdkbleaaW.PrintMore
open Go.Proofs.Ytpejjpecdkbleaa.Pure (withoutL without_f isPeer_f)
set_option linter.unusedVariables false
set_option linter.unusedSimpArgs false
abbrev Rf:=S56
def tyAt (t:Nat) (W:World) (k:Nat):Prop:=∃ cells,W.heap[k]?=some (.cells cells t (0,0))
/-- The document's table: its rows. -/
structure RT (w W:World) (VL VB:Value) (l:List Rf) (lb:List Int):Prop where
 rl:Kd.R k56 56 W w.heap.size (fun _=>True) VL l
 rb:Kd.R (Kd.int .i64) 3 W w.heap.size (fun _=>True) VB lb
/-- The blocks that a reference may write. -/
def RefS (W:World) (k:Nat):Prop:=tyAt 56 W k∨tyAt 3 W k
section
variable {w W W2:World} {VL VB:Value} {l:List Rf} {lb:List Int} {room tmo:Int} {g:Nat} {m:PM} {bs:List Bool}
theorem RT.tl (r:RT w W VL VB l lb):Kd.R k56 56 W w.heap.size (tyAt 56 W) VL l :=
 Kd.R_mono (Kd.R_bound r.rl) (fun k hk=>by
  obtain ⟨_,_,_,q,hq,hc⟩:=hk
  rw [List.mem_singleton.1 (show q∈[56] from hq)] at hc
  exact hc)
theorem RT.tb (r:RT w W VL VB l lb):Kd.R (Kd.int .i64) 3 W w.heap.size (tyAt 3 W) VB lb :=
 Kd.R_mono (Kd.R_bound r.rb) (fun k hk=>by
  obtain ⟨_,_,_,q,hq,hc⟩:=hk
  rw [List.mem_singleton.1 (show q∈[3] from hq)] at hc
  exact hc)
theorem RT.below (r:RT w W VL VB l lb) (hb:Below W.heap.size W W2):RT w W2 VL VB l lb:=⟨Kd.R_below r.rl hb,Kd.R_below r.rb hb⟩
theorem RT.foot (r:RT w W VL VB l lb) (hk:Kept W W2 (FootT W)):RT w W2 VL VB l lb:=⟨rows_foot r.rl hk (by decide),rows_foot r.rb hk (by decide)⟩
theorem refS_not {b t:Nat} {cells:Array Value} (h:W.heap[b]?=some (.cells cells t (0,0))) (h1:t≠56) (h2:t≠3):¬ RefS W b:=by
 rintro (⟨c,hc⟩|⟨c,hc⟩)
 ·
  rw [h] at hc
  injection hc with hc
  injection hc with _ hc
  exact h1 hc
 ·
  rw [h] at hc
  injection hc with hc
  injection hc with _ hc
  exact h2 hc
theorem foot_not {b t:Nat} {cells:Array Value} (h:W.heap[b]?=some (.cells cells t (0,0))) (h1:t≠33) (h2:t≠85):¬ FootT W b:=by
 rintro ⟨c,t',hc,ht⟩
 rw [h] at hc
 injection hc with hc
 injection hc with _ hc
 rcases ht with ht|ht
 ·
  exact h1 (hc.trans ht)
 ·
  exact h2 (hc.trans ht)
/-- A table stays where its blocks do. -/
theorem PT.refd (t:PT w W g room tmo m bs) (hk:Kept W W2 (RefS W)) (hb:Below w.heap.size w W2):PT w W2 g room tmo m bs:=by
 obtain ⟨⟨ps,h,he⟩,hi⟩:=t
 exact ⟨⟨ps,⟨blk_kept h.blk hk (refS_not h.blk (by decide) (by decide)),h.lp,h.lb,fun i b p hp=>⟨blk_kept (h.node i b p hp).1 hk (refS_not (h.node i b p hp).1 (by decide) (by decide)),(h.node i b p hp).2⟩,h.inj,h.ge,hb⟩,he⟩,hi⟩
theorem isPeer_calls (n:Int) (W:World):Calls Try.prog 69 #[.int .i64 n] W fun e W2=>e=.returned (.bool (decide (1≤n∧n≤15)))∧Drawn0 W W2:=mosaicref18_IsPeer.calls n _ W (isPeer_f n)
/-- A whole struct is stored into a block of its size. -/
theorem store_own {ops:Array Oper} {rest:List Oper} {o:Oper} {a:Act} {w:World} {Q:Exit→Act→World→Prop} {P:Program} (hgd:o.guard=none) (ty:TypeId) (x y:Operand) (ho:o.op=.store ty x y)
  (g:Nat) (cells:Array Value) (hx:a.eval x=.pointer (some ⟨g,0,none⟩)) (hy:a.eval y=.agg cells)
  (t:TypeId) (old:Array Value) (hg:w.heap[g]?=some (.cells old t (0,0))) (hi:(P.info? ty).map (·.size)=some cells.size)
  (hold:old.size=cells.size) (h1:cells.all (·.oneCell')=true)
  (h:∀ W',W'.heap[g]?=some (.cells cells t (0,0))→Below g w W'→KeepBut w W' g none→wpList P ops Q rest (a.put o.dst undef) W'):wpList P ops Q (o :: rest) a w :=
 wpList_store_row hgd ty x y ho g cells hx hy t old hg hi hold h1 (h _ (setRow_heap _ _ _ _ _ _ hg) (below_setRow (Below.refl _ _) (Nat.le_refl _) _) ⟨by simp [World.setRow],fun i _ hne _=>setRow_other w g i cells hne⟩)
theorem info45z:(Try.prog.info? 45).map (·.size)=some 4:=by kernel_rfl
theorem t45_one (room tmo:Int) (A:Option Addr) (n c:Nat) (A':Option Addr) (n' c':Nat):#[Value.int .i64 room,.int .i64 tmo,.slice A n c,.slice A' n' c'].all (·.oneCell')=true:=by simp [Value.oneCell']
theorem RT.sl (r:RT w W VL VB l lb):∃ A c,VL=.slice A l.length c:=Kd.R_slice r.rl
theorem RT.sb (r:RT w W VL VB l lb):∃ A c,VB=.slice A lb.length c:=Kd.R_slice r.rb
set_option maxHeartbeats 1600000 in
set_option maxRecDepth 100000 in
theorem RT.Ban_no (r:RT w W VL VB l lb) (hbel:Below w.heap.size w W) (n:Int) (hn:¬ (1≤n∧n≤15)) :
  Calls Try.prog 55 #[.agg #[.int .i64 room,.int .i64 tmo,VL,VB],.int .i64 n] W fun e W2=>∃ V2 V3,e=.returned (.tuple #[.agg #[.int .i64 room,.int .i64 tmo,V2,V3],.int .i64 1])∧RT w W2 V2 V3 l lb∧Kept W W2 (RefS W)∧Below w.heap.size w W2:=by
 obtain ⟨A1,c1,rfl⟩:=r.sl
 obtain ⟨A2,c2,rfl⟩:=r.sb
 have HP:=isPeer_calls n
 rw [decide_eq_false hn] at HP
 have HP2:=Aside0.mk HP
 have HR:=Aside0.mk r
 have HB:=Aside0.mk hbel
 clear HP r hn hbel
 go_enter Try.func55,Try.ntmps55
 go_wp2_with fail
 refine (HP2.out _).mono ?_
 rintro e W3 ⟨rfl,hd⟩
 have hbw:Below W.heap.size W W3:=below_step (below_alloc (below_alloc (Below.refl _ _) _) _) hd.below
 have hb2:=blk_below (blk_alloc (heap_alloc_new W (.cells #[.int .i64 room,.int .i64 tmo,.slice A1 l.length c1,.slice A2 lb.length c2] 45)) (.cells #[.int .i64 0,.int .i64 0,.slice none 0 0,.slice none 0 0] 45)) hd.below
 have hb4:=blk_below (heap_alloc_new (W.alloc (.cells #[.int .i64 room,.int .i64 tmo,.slice A1 l.length c1,.slice A2 lb.length c2] 45)) (.cells #[.int .i64 0,.int .i64 0,.slice none 0 0,.slice none 0 0] 45)) hd.below
 rw [show (W.alloc (.cells #[.int .i64 room,.int .i64 tmo,.slice A1 l.length c1,.slice A2 lb.length c2] 45)).heap.size=W.heap.size+1 by simp] at hb4
 have k0:W3.cell? ⟨W.heap.size,0,none⟩=some (.int .i64 room):=(blk_cell hb2 0)
 have k1:W3.cell? ⟨W.heap.size,1,none⟩=some (.int .i64 tmo):=(blk_cell hb2 1)
 have k2:W3.cell? ⟨W.heap.size,2,none⟩=some (.slice A1 l.length c1):=(blk_cell hb2 2)
 have k3:W3.cell? ⟨W.heap.size,3,none⟩=some (.slice A2 lb.length c2):=(blk_cell hb2 3)
 have HB4:=Aside0.mk hb4
 have HBW:=Aside0.mk hbw
 clear hb2 hb4 hbw hd
 go_wp2_with (refine store_own rfl 45 (.tmp 4) (.tmp 11) rfl (W.heap.size+1) #[.int .i64 room,.int .i64 tmo,.slice A1 l.length c1,.slice A2 lb.length c2] rfl rfl 45 _ HB4.out info45z rfl (t45_one _ _ _ _ _ _ _ _) ?_;intro W4 hW4 hb hk;have HB5:=Aside0.mk (show Below W.heap.size W W4 from HBW.out.trans (hb.mono (Nat.le_succ _)));have HW4:=Aside0.mk hW4;clear hW4 hb hk)
 refine bodyPost_ret (v:=.tuple #[.agg #[.int .i64 room,.int .i64 tmo,.slice A1 l.length c1,.slice A2 lb.length c2],.int .i64 1]) (results_list (rs:=[.cell 4 45,.tmp 5]) rfl (by simp) (.cell (W.heap.size+1) 45 _ (0,0) _ rfl HW4.out Try.underlying45 rfl info45z (.tmp .nil))) rfl ?_
 exact ⟨_,_,rfl,HR.out.below HB5.out,Kept.of_below HB5.out _,below_step HB.out HB5.out⟩
theorem RT.keep45 (r:RT w W VL VB l lb) {b:Nat} {cells:Array Value} (hb:W.heap[b]?=some (.cells cells 45 (0,0))) (hk:KeepBut W W2 b none):RT w W2 VL VB l lb :=
 ⟨Kd.R_mono (Kd.R_keep (Kd.R_types r.rl hb (by decide)) hk (fun _ h=>h.2)) (fun _ _=>trivial),Kd.R_mono (Kd.R_keep (Kd.R_types r.rb hb (by decide)) hk (fun _ h=>h.2)) (fun _ _=>trivial)⟩
/-- The block of the banned ones' row. -/
def OwnB (VB:Value) (k:Nat):Prop:=VB.ownBlock=some k
theorem RT.own (r:RT w W VL VB l lb):Kd.R (Kd.int .i64) 3 W w.heap.size (OwnB VB) VB lb:=Kd.R_flat (fun h=>h) r.rb (fun _ h _=>h)
theorem RT.ownTy (r:RT w W VL VB l lb) (k:Nat) (h:OwnB VB k):tyAt 3 W k:=r.tb.1 k h
theorem RT.ownLt (r:RT w W VL VB l lb) (k:Nat) (h:OwnB VB k):k < W.heap.size:=by
 obtain ⟨c,hc⟩:=r.ownTy k h
 exact blk_lt hc
theorem RT.keptL (r:RT w W VL VB l lb) (hk:Kept W W2 (OwnB VB)):Kd.R k56 56 W2 w.heap.size (fun _=>True) VL l :=
 Kd.R_mono (Kd.R_move r.tl (fun k hk1=>by
  obtain ⟨c,hc⟩:=hk1
  refine hk.2 k (blk_lt hc) (fun ho=>?_)
  obtain ⟨c2,hc2⟩:=r.ownTy k ho
  rw [hc] at hc2
  injection hc2 with hc2
  injection hc2 with _ hc2
  exact absurd hc2 (by decide))) (fun _ _=>trivial)
set_option maxHeartbeats 1600000 in
set_option maxRecDepth 100000 in
theorem RT.Ban_yes (r:RT w W VL VB l lb) (hbel:Below w.heap.size w W) (n:Int) (hn:1≤n∧n≤15) (hl:l.length < 1000000) (hlb:lb.length < 1000000) :
  Calls Try.prog 55 #[.agg #[.int .i64 room,.int .i64 tmo,VL,VB],.int .i64 n] W fun e W2=>∃ V2 V3,e=.returned (.tuple #[.agg #[.int .i64 room,.int .i64 tmo,V2,V3],.int .i64 0])∧RT w W2 V2 V3 (withoutL l n) (lb ++ [n])∧Kept W W2 (RefS W)∧Below w.heap.size w W2:=by
 obtain ⟨A1,c1,rfl⟩:=r.sl
 obtain ⟨A2,c2,rfl⟩:=r.sb
 have HP:=isPeer_calls n
 rw [decide_eq_true hn] at HP
 have HP2:=Aside0.mk HP
 have HR:=Aside0.mk r
 have HB:=Aside0.mk hbel
 have HLL:=Aside0.mk (And.intro hl hlb)
 clear HP r hn hbel hl hlb
 go_enter Try.func55,Try.ntmps55
 go_wp2_with fail
 refine (HP2.out _).mono ?_
 rintro e W3 ⟨rfl,hd⟩
 have hbw:Below W.heap.size W W3:=below_step (below_alloc (below_alloc (Below.refl _ _) _) _) hd.below
 have hb2:=blk_below (blk_alloc (heap_alloc_new W (.cells #[.int .i64 room,.int .i64 tmo,.slice A1 l.length c1,.slice A2 lb.length c2] 45)) (.cells #[.int .i64 0,.int .i64 0,.slice none 0 0,.slice none 0 0] 45)) hd.below
 have hb4:=blk_below (heap_alloc_new (W.alloc (.cells #[.int .i64 room,.int .i64 tmo,.slice A1 l.length c1,.slice A2 lb.length c2] 45)) (.cells #[.int .i64 0,.int .i64 0,.slice none 0 0,.slice none 0 0] 45)) hd.below
 rw [show (W.alloc (.cells #[.int .i64 room,.int .i64 tmo,.slice A1 l.length c1,.slice A2 lb.length c2] 45)).heap.size=W.heap.size+1 by simp] at hb4
 have HB4:=Aside0.mk hb4
 have HB2:=Aside0.mk hb2
 have HBW:=Aside0.mk hbw
 clear hb2 hb4 hbw hd
 go_wp2_with fail
 go_loopg [6,7] (lb.length+1) (fun gg v6 v7 wr=>∃ (i:Nat),v7=.int .i64 i∧Aside0 (i+gg=lb.length+1∧i≤lb.length)∧Aside0 (Kd.R (Kd.int .i64) 3 wr W.heap.size (fun _=>True) v6 (lb.take i))∧Aside0 (Below W.heap.size W wr)∧Aside0 (wr.heap[W.heap.size]?=some (.cells #[.int .i64 room,.int .i64 tmo,.slice A1 l.length c1,.slice A2 lb.length c2] 45 (0,0)))∧Aside0 (wr.heap[W.heap.size+1]?=some (.cells #[.int .i64 0,.int .i64 0,.slice none 0 0,.slice none 0 0] 45 (0,0))))
 case atStart=>exact ⟨0,rfl,⟨by omega,by omega⟩,⟨by rw [List.take_zero];exact Kd.R_nil _ _ _ _ _⟩,HBW,HB2,HB4⟩
 case round =>
  clear HBW HB2 HB4
  obtain ⟨i,rfl,HG,HO,HBW,HB2,HB4⟩:=hrel
  have hll:=HLL.out.2
  have k3:wr.cell? ⟨W.heap.size,3,none⟩=some (.slice A2 lb.length c2):=(blk_cell HB2.out 3)
  by_cases hlt:(i:Int) < (lb.length:Int)
  ·
   obtain ⟨gg,rfl⟩:∃ m,gk=m+1:=⟨gk - 1,by have:=HG.out;omega⟩
   have hrb:=(HR.out.below HBW.out).rb
   obtain ⟨ad,hA,hx⟩:=Kd.at_int (Kd.R_reads' hrb).2.2 (i:Int) (by omega) hlt
   rw [Int.toNat_natCast] at hx
   subst hA
   have hil:i < lb.length:=by omega
   have HSN:=Aside0.mk (show lb.take (i+1)=lb.take i ++ [rd lb (i:Int)] by rw [List.take_succ_eq_append_getElem hil,Go.Proofs.Ytpejjpecdkbleaa.Pure.rd_lt lb i hil])
   generalize rd lb (i:Int)=x at hx HSN
   clear hrb
   go_wp2_with (first
    | ((with_reducible refine gate_builtin (b:=.append) (xs:=#[.tmp 19,.tmp 25]) rfl ?_);at_builtin;refine Kd.R_append (Kd.int .i64) (w0:=wr) W.heap.size rfl (.tmp 19) (.tmp 25) 22 3 (.int .i64 0) 8 rfl Try.underlying22 info3 rfl (by decide) (by omega) _ (lb.take i) x [.int .i64 x] (fun _=>True) (fun _=>False) rfl rfl rfl (fun _ hk=>hk.elim) (fun _ _=>trivial) ?aO ?aB ?aS ?aL ?_;(case aO=>exact HO.out);(case aB=>exact Below.refl _ _);(case aS=>exact HBW.out.size);(case aL=>have h1:=HLL.out.2;rw [List.length_take];omega);intro v13 w7 ho hb hg hat;have HO7:=Aside0.mk ho;have HB7:=Aside0.mk (show Below W.heap.size W w7 from HBW.out.trans hb);have HN2:=Aside0.mk (blk_grown HB2.out hg (Kd.R_ne HO.out HB2.out (by decide)));have HN4:=Aside0.mk (blk_grown HB4.out hg (Kd.R_ne HO.out HB4.out (by decide)));clear ho hb hg hat HO))
   go_roundg gg
   case measure=>omega
   case rel=>exact ⟨i+1,by go_num,⟨by have:=HG.out;omega,by omega⟩,⟨by rw [HSN.out];exact HO7.out⟩,HB7,HN2,HN4⟩
  ·
   obtain rfl:i=lb.length:=by have:=HG.out;omega
   have k0:wr.cell? ⟨W.heap.size,0,none⟩=some (.int .i64 room):=(blk_cell HB2.out 0)
   have k1:wr.cell? ⟨W.heap.size,1,none⟩=some (.int .i64 tmo):=(blk_cell HB2.out 1)
   have k2:wr.cell? ⟨W.heap.size,2,none⟩=some (.slice A1 l.length c1):=(blk_cell HB2.out 2)
   have HO2:=Aside0.mk (show Kd.R (Kd.int .i64) 3 wr W.heap.size (fun _=>True) _ lb by have:=HO.out;rwa [List.take_length] at this)
   clear HO
   go_wp2_with (first
    | ((with_reducible refine gate_builtin (b:=.append) (xs:=#[.tmp 27,.tmp 29]) rfl ?_);at_builtin;refine Kd.R_append (Kd.int .i64) (w0:=wr) W.heap.size rfl (.tmp 27) (.tmp 29) 22 3 (.int .i64 0) 8 rfl Try.underlying22 info3 rfl (by decide) (by omega) _ lb n [.int .i64 n] (fun _=>True) (fun _=>False) rfl rfl rfl (fun _ hk=>hk.elim) (fun _ _=>trivial) ?aO ?aB ?aS ?aL ?_;(case aO=>exact HO2.out);(case aB=>exact Below.refl _ _);(case aS=>exact HBW.out.size);(case aL=>have h1:=HLL.out.2;omega);intro v13 w7 ho hb hg hat;have HO7:=Aside0.mk ho;have HB7:=Aside0.mk (show Below W.heap.size W w7 from HBW.out.trans hb);have HN2:=Aside0.mk (blk_grown HB2.out hg (Kd.R_ne HO2.out HB2.out (by decide)));have HN4:=Aside0.mk (blk_grown HB4.out hg (Kd.R_ne HO2.out HB4.out (by decide)));clear ho hb hg hat HO2 k0 k1 k2 k3 HB2 HB4;have k0:=(show w7.cell? ⟨W.heap.size,0,none⟩=some (.int .i64 room) from blk_cell HN2.out 0);have k1:=(show w7.cell? ⟨W.heap.size,1,none⟩=some (.int .i64 tmo) from blk_cell HN2.out 1);have k2:=(show w7.cell? ⟨W.heap.size,2,none⟩=some (.slice A1 l.length c1) from blk_cell HN2.out 2);have k3:=(show w7.cell? ⟨W.heap.size,3,none⟩=some (.slice A2 lb.length c2) from blk_cell HN2.out 3)))
   have HR7:=Aside0.mk (HR.out.below HB7.out)
   have HE:=Aside0.mk (without_f room tmo l lb n HLL.out.1).rounds
   obtain ⟨kk,hkk⟩:=HE.out
   have HKK:=Aside0.mk hkk
   clear hkk HE
   refine (mosaicref18_Table_without.calls kk room tmo A1 c1 l (OwnB (.slice A2 lb.length c2)) (.slice A2 lb.length c2) lb n _ _ _ _ w w7 (below_step HB.out HB7.out) (fun W_ hW=>(Kd.R_reads' (HR7.out.keptL hW)).2.2) (Kd.R_reads' HR7.out.rl).2.1 HR7.out.own HKK.out).mono ?_
   rintro e w8 ⟨v2,v3,rfl,h2,h3,hb8,hk8⟩
   obtain ⟨A8,c8,hv8⟩:=Kd.R_slice h2
   subst hv8
   obtain ⟨A9,c9,hv9⟩:=Kd.R_slice h3
   subst hv9
   obtain ⟨A10,c10,hv10⟩:=Kd.R_slice HO7.out
   rw [List.length_append,List.length_singleton] at hv10
   subst hv10
   have hP:∀ k,OwnB (.slice A2 lb.length c2) k→k < W.heap.size:=fun k hk=>HR.out.ownLt k hk
   have HT8:=Aside0.mk (show RT w w8 (.slice A8 (withoutL l n).length c8) (.slice A10 (lb.length+1) c10) (withoutL l n) (lb ++ [n]) from ⟨Kd.R_mono h2 (fun _ _=>trivial),Kd.R_lower (Kd.R_mono (Kd.R_move (Kd.R_bound HO7.out) (fun k hk=>hk8.2 k hk.2.2.1 (fun ho=>absurd (hP k ho) (by omega)))) (fun _ _=>trivial)) HB.out.size⟩)
   have HN2':=Aside0.mk (blk_kept HN2.out hk8 (fun ho=>absurd (hP _ ho) (by omega)))
   have HN4':=Aside0.mk (blk_kept HN4.out hk8 (fun ho=>absurd (hP _ ho) (by omega)))
   have HK8:=Aside0.mk (show Kept W w8 (RefS W) from (Kept.of_below HB7.out _).then_ hk8 (fun k hk=>.inl (.inr (HR.out.ownTy k hk))))
   have HB8:=Aside0.mk hb8
   have HS8:=Aside0.mk (show W.heap.size+1 < w8.heap.size from blk_lt HN4'.out)
   clear h2 h3 hb8 hk8 hP HO7 HN2 HN4 k0 k1 k2 k3 HB7
   go_wp2_with (first
    | (refine store_own rfl 45 (.tmp 2) (.tmp 33) rfl W.heap.size #[.int .i64 room,.int .i64 tmo,.slice A8 (withoutL l n).length c8,.slice A9 lb.length c9] rfl rfl 45 _ HN2'.out info45z rfl (t45_one _ _ _ _ _ _ _ _) ?_;intro W4 hW4 hb hk;have HT9:=Aside0.mk (HT8.out.keep45 HN2'.out hk);have HN2:=Aside0.mk hW4;have HN4:=Aside0.mk (hk.blk HN4'.out (by omega) (by simp));have HK9:=Aside0.mk (HK8.out.of_keep hk (.inr (Nat.le_refl _)));have HB9:=Aside0.mk (show Below w.heap.size w W4 from HB8.out.trans (hb.mono HB.out.size));clear hW4 hb hk HT8 HN2' HN4' HK8 HB8 HS8;have k0:=(show W4.cell? ⟨W.heap.size,0,none⟩=some (.int .i64 room) from blk_cell HN2.out 0);have k1:=(show W4.cell? ⟨W.heap.size,1,none⟩=some (.int .i64 tmo) from blk_cell HN2.out 1);have k2:=(show W4.cell? ⟨W.heap.size,2,none⟩=some (.slice A8 (withoutL l n).length c8) from blk_cell HN2.out 2);have k3:=(show W4.cell? ⟨W.heap.size,3,none⟩=some (.slice A9 lb.length c9) from blk_cell HN2.out 3);have z3:=blk_frozen HN2.out 3)
    | (refine store_own rfl 45 (.tmp 4) (.tmp 36) rfl (W.heap.size+1) #[.int .i64 room,.int .i64 tmo,.slice A8 (withoutL l n).length c8,.slice A10 (lb.length+1) c10] rfl rfl 45 _ (blk_far HN4.out (by simp) _) info45z rfl (t45_one _ _ _ _ _ _ _ _) ?_;intro W5 hW5 hb hk;have HW5:=Aside0.mk hW5;have HHB:=Aside0.mk hb;have HHK:=Aside0.mk hk;clear hW5 hb hk))
   refine bodyPost_ret (v:=.tuple #[.agg #[.int .i64 room,.int .i64 tmo,.slice A8 (withoutL l n).length c8,.slice A10 (lb.length+1) c10],.int .i64 0]) (results_list (rs:=[.cell 4 45,.tmp 5]) rfl (by simp) (.cell (W.heap.size+1) 45 _ (0,0) _ rfl HW5.out Try.underlying45 rfl info45z (.tmp .nil))) rfl ?_
   refine ⟨_,_,rfl,?_,?_,?_⟩
   ·
    have h9:RT w (W4.setCell ⟨W.heap.size,3,none⟩ (.slice A10 (lb.length+1) c10)) (.slice A8 (withoutL l n).length c8) (.slice A10 (lb.length+1) c10) (withoutL l n) (lb ++ [n]):=HT9.out.keep45 HN2.out (KeepBut.set_ (KeepBut.refl _ _ _) 3 _)
    exact h9.keep45 (blk_far HN4.out (by simp) _) HHK.out
   ·
    exact (HK9.out.setCell (.inr (Nat.le_refl _)) _).of_keep HHK.out (.inr (Nat.le_succ _))
   ·
    exact (HB9.out.setCell HB.out.size _).trans (HHB.out.mono (Nat.le_succ_of_le HB.out.size))
end
end Go.Proofs.Ytpejjpecdkbleaa.Print
/-! #### Pr59 -/
namespace Go.Proofs.Ytpejjpecdkbleaa.Print
open Go.RowKit Go.Proofs.YtpejjpecdkbleaaW.PrintWords Go.Proofs.YtpejjpecdkbleaaW.PrintLast Go.Proofs.YtpejjpecdkbleaaW.PrintMore
attribute [local go_sem] max2_int min2_int max_two min_two max_three min_three max_four min_four
set_option linter.unusedVariables false
set_option linter.unusedSimpArgs false
/-! ### mosaicref18_Table_Roll: function 59 -/
def mosaicref18_Table_Roll.l0:Nat→Int→Int→Int→List (S56)→List Int→Option (Int×Int×(List (S56))×List Int)
 | 0,_,_,_,_,_=>none
 | k+1,x3,x2000,x2001,x2002,x2003=>if x3 < (x2002.length:Int) then (if 0≤x3 then ((mosaicref18_Table_with.f k x2000 x2001 x2002 x2003 ((rd_T56 x2002 x3).f0) ((rd_T56 x2002 x3).f1.f0) ((rd_T56 x2002 x3).f1.f1) ((rd_T56 x2002 x3).f2) ((rd_T56 x2002 x3).f3) ((rd_T56 x2002 x3).f4) ((rd_T56 x2002 x3).f5) ((rd_T56 x2002 x3).f6) 0 ((rd_T56 x2002 x3).f7)).bind fun bt5=>(mosaicref18_Table_Roll.l0 k (wrap64 (x3+1)) bt5.1 bt5.2.1 bt5.2.2.1 bt5.2.2.2)) else (none)) else (some (x2000,x2001,x2002,x2003))
def mosaicref18_Table_Roll.f (k:Nat) (a0_0:Int) (a0_1:Int) (l0_2:List (S56)) (l0_3:List Int):Option (Int×Int×(List (S56))×List Int):=mosaicref18_Table_Roll.l0 k 0 a0_0 a0_1 l0_2 l0_3
theorem mosaicref18_Table_Roll.mono_l:∀ k,(∀ y0 y1 y2 y3 y4,LeO (mosaicref18_Table_Roll.l0 k y0 y1 y2 y3 y4) (mosaicref18_Table_Roll.l0 (k+1) y0 y1 y2 y3 y4))
 | 0=>fun _ _ _ _ _ r h=>by simp [mosaicref18_Table_Roll.l0] at h
 | k+1=>by
  have ih0:=mosaicref18_Table_Roll.mono_l k
  ·
   intro y0 y1 y2 y3 y4
   unfold mosaicref18_Table_Roll.l0
   repeat' first
   | (with_reducible exact ih0 _ _ _ _ _)
   | (with_reducible exact mosaicref18_Table_with.mono _ _ _ _ _ _ _ _ _ _ _ _ _ _ _)
   | (with_reducible exact LeO.refl _)
   | (with_reducible exact LeO.none _)
   | (with_reducible refine LeO.ite ?_ ?_)
   | (with_reducible refine LeO.bind ?_ (fun _=>?_))
   | exact ih0 _ _ _ _ _
   | exact mosaicref18_Table_with.mono _ _ _ _ _ _ _ _ _ _ _ _ _ _ _
   | exact LeO.none _
   | refine LeO.ite ?_ ?_
   | refine LeO.bind ?_ (fun _=>?_)
theorem mosaicref18_Table_Roll.mono:∀ a0 a1 a2 a3 k,LeO (mosaicref18_Table_Roll.f k a0 a1 a2 a3) (mosaicref18_Table_Roll.f (k+1) a0 a1 a2 a3):=by
 intro a0 a1 a2 a3 k
 have ih0:=mosaicref18_Table_Roll.mono_l k
 unfold mosaicref18_Table_Roll.f
 repeat' first
   | (with_reducible exact ih0 _ _ _ _ _)
   | (with_reducible exact mosaicref18_Table_with.mono _ _ _ _ _ _ _ _ _ _ _ _ _ _ _)
   | (with_reducible exact LeO.refl _)
   | (with_reducible exact LeO.none _)
   | (with_reducible refine LeO.ite ?_ ?_)
   | (with_reducible refine LeO.bind ?_ (fun _=>?_))
   | exact ih0 _ _ _ _ _
   | exact mosaicref18_Table_with.mono _ _ _ _ _ _ _ _ _ _ _ _ _ _ _
   | exact LeO.none _
   | refine LeO.ite ?_ ?_
   | refine LeO.bind ?_ (fun _=>?_)
set_option maxHeartbeats 8000000 in
set_option maxRecDepth 100000 in
theorem mosaicref18_Table_Roll.calls (k:Nat) (a0_0:Int) (a0_1:Int) (P0_2_:Nat→Prop) (u9000_:Value) (l0_2:List (S56)) (P0_3_:Nat→Prop) (u9001_:Value) (l0_3:List Int) (r1:Int) (r2:Int) (r3:List (S56)) (r4:List Int) (w0 w:World) (hB:Below w0.heap.size w0 w) (ho0_2:Kd.R k56 56 w w0.heap.size P0_2_ u9000_ l0_2) (ho0_3:Kd.R (Kd.int .i64) 3 w w0.heap.size P0_3_ u9001_ l0_3) (h:mosaicref18_Table_Roll.f k a0_0 a0_1 l0_2 l0_3=some (r1,r2,r3,r4)) :
  Calls Try.prog 59 #[.agg #[.int .i64 a0_0,.int .i64 a0_1,u9000_,u9001_]] w fun e w'=>∃ v2_ v3_:Value,e=.returned (.agg #[.int .i64 r1,.int .i64 r2,v2_,v3_])∧Kd.R k56 56 w' w0.heap.size (fun k_=>((P0_2_ k_∨P0_3_ k_)∨w.heap.size≤k_)) v2_ r3∧Kd.R (Kd.int .i64) 3 w' w0.heap.size (fun k_=>((P0_2_ k_∨P0_3_ k_)∨w.heap.size≤k_)) v3_ r4∧Below w0.heap.size w0 w'∧Kept w w' (fun k_=>P0_2_ k_∨P0_3_ k_):=by
 have hu45:=Try.underlying45
 have hu56:=Try.underlying56
 have HO0_2:=Aside0.mk (show Kd.R k56 56 w w0.heap.size (fun k_=>((P0_2_ k_∨P0_3_ k_)∨w.heap.size≤k_)) u9000_ l0_2 from Kd.R_mono ho0_2 (fun k_ hk=>(.inl (.inl hk))))
 have HO0_3:=Aside0.mk (show Kd.R (Kd.int .i64) 3 w w0.heap.size (fun k_=>((P0_2_ k_∨P0_3_ k_)∨w.heap.size≤k_)) u9001_ l0_3 from Kd.R_mono ho0_3 (fun k_ hk=>(.inl (.inr hk))))
 have HK:=Aside0.mk (Kept.refl w (fun k_=>P0_2_ k_∨P0_3_ k_))
 have HW0:=Aside0.mk hB.size
 have HB:=Aside0.mk hB
 clear hB
 have H:(mosaicref18_Table_Roll.l0 k 0 a0_0 a0_1 l0_2 l0_3)=some (r1,r2,r3,r4):=h
 clear h
 have H':=Aside0.mk H
 clear H
 obtain ⟨Ao2,co2,eo2⟩:=Kd.R_slice HO0_2.out
 subst eo2
 obtain ⟨Ao3,co3,eo3⟩:=Kd.R_slice HO0_3.out
 subst eo3
 go_enter Try.func59,Try.ntmps59
 go_wp2_with (first|((with_reducible refine gate_dst (N:=1) rfl ?_);refine box_event ?hg (N:=1) ?hd (cs:=#[.int .i64 a0_0,.int .i64 a0_1,.slice Ao2 l0_2.length co2,.slice Ao3 l0_3.length co3]) (t:=45) ?hr ?_;(case hd=>rfl);(case hg=>rfl);(case hr=>first|(go_simp;done)|(go_simp;rfl));intro gb1 hg w4 hbox hb;have n0_:=Aside0.mk (Kd.R_below (by (with_reducible repeat (first|apply Kd.R_alloc|apply Kd.R_drewN|apply Kd.R_drew));exact HO0_2.out) hb);have n1_:=Aside0.mk (Kd.R_below (by (with_reducible repeat (first|apply Kd.R_alloc|apply Kd.R_drewN|apply Kd.R_drew));exact HO0_3.out) hb);have n2_:=Aside0.mk (Kept.below (S:=(fun k_=>P0_2_ k_∨P0_3_ k_)) (by repeat (first|(with_reducible first|exact HK.out|apply Kept.alloc|apply Kept.drewN|apply Kept.drew)|exact HK.out)) hb);have n3_:=Aside0.mk (below_step (by repeat (first|(with_reducible first|exact HB.out|apply below_alloc|apply pw_below_drewN|apply below_drew1)|exact HB.out)) hb);have n4_:=Aside0.mk (hbox);have n5_:=Aside0.mk ((by rw [hg];exact (by first|exact HK.out.1|exact (show Kept w _ (fun k_=>P0_2_ k_∨P0_3_ k_) from by repeat (first|(with_reducible first|exact HK.out|apply Kept.alloc|apply Kept.drewN|apply Kept.drew)|exact HK.out)).1):w.heap.size≤gb1));have n6_:=Aside0.mk ((by rw [hg];exact (below_size (by repeat (first|(with_reducible first|exact HB.out|apply below_alloc|apply pw_below_drewN|apply below_drew1)|exact HB.out))):w0.heap.size≤gb1));clear HO0_2;clear HO0_3;clear HK;clear HB;have HO0_2:=n0_;have HO0_3:=n1_;have HK:=n2_;have HB:=n3_;have BK1:=n4_;have GW1:=n5_;have GE1:=n6_;clear n0_ n1_ n2_ n3_ n4_ n5_ n6_;clear hb hbox hg)|((with_reducible refine gate_dst (N:=2) rfl ?_);refine box_event ?hg (N:=2) ?hd (cs:=#[.int .i64 0,.int .i64 0,.slice none 0 0,.slice none 0 0]) (t:=45) ?hr ?_;(case hd=>rfl);(case hg=>rfl);(case hr=>first|(go_simp;done)|(go_simp;rfl));intro gb2 hg w5 hbox hb;have n0_:=Aside0.mk (Kd.R_below (by (with_reducible repeat (first|apply Kd.R_alloc|apply Kd.R_drewN|apply Kd.R_drew));exact HO0_2.out) hb);have n1_:=Aside0.mk (Kd.R_below (by (with_reducible repeat (first|apply Kd.R_alloc|apply Kd.R_drewN|apply Kd.R_drew));exact HO0_3.out) hb);have n2_:=Aside0.mk (blk_below (g:=gb1) (o:=.cells #[.int .i64 a0_0,.int .i64 a0_1,.slice Ao2 l0_2.length co2,.slice Ao3 l0_3.length co3] 45 (0,0)) (by (with_reducible repeat (first|refine blk_drewN ?_ _|refine blk_drew ?_|refine blk_alloc ?_ _));exact BK1.out) hb);have n3_:=Aside0.mk (Kept.below (S:=(fun k_=>P0_2_ k_∨P0_3_ k_)) (by repeat (first|(with_reducible first|exact HK.out|apply Kept.alloc|apply Kept.drewN|apply Kept.drew|refine Kept.setCell ?_ (.inr GW1.out) _)|exact HK.out)) hb);have n4_:=Aside0.mk (below_step (by repeat (first|(with_reducible first|exact HB.out|apply below_alloc|apply pw_below_drewN|apply below_drew1|refine below_set ?_ GE1.out)|exact HB.out)) hb);have n5_:=Aside0.mk (hbox);have n6_:=Aside0.mk ((by rw [hg];exact (by first|exact HK.out.1|exact (show Kept w _ (fun k_=>P0_2_ k_∨P0_3_ k_) from by repeat (first|(with_reducible first|exact HK.out|apply Kept.alloc|apply Kept.drewN|apply Kept.drew|refine Kept.setCell ?_ (.inr GW1.out) _)|exact HK.out)).1):w.heap.size≤gb2));have n7_:=Aside0.mk ((by rw [hg];exact (below_size (by repeat (first|(with_reducible first|exact HB.out|apply below_alloc|apply pw_below_drewN|apply below_drew1|refine below_set ?_ GE1.out)|exact HB.out))):w0.heap.size≤gb2));have n8_:=Aside0.mk ((by rw [hg];exact Nat.ne_of_lt (blk_lt (g:=gb1) (o:=.cells #[.int .i64 a0_0,.int .i64 a0_1,.slice Ao2 l0_2.length co2,.slice Ao3 l0_3.length co3] 45 (0,0)) (by (with_reducible repeat (first|refine blk_drewN ?_ _|refine blk_drew ?_|refine blk_alloc ?_ _));exact BK1.out)):gb1≠gb2));have n9_:=Aside0.mk ((by rw [hg];exact Nat.ne_of_gt (blk_lt (g:=gb1) (o:=.cells #[.int .i64 a0_0,.int .i64 a0_1,.slice Ao2 l0_2.length co2,.slice Ao3 l0_3.length co3] 45 (0,0)) (by (with_reducible repeat (first|refine blk_drewN ?_ _|refine blk_drew ?_|refine blk_alloc ?_ _));exact BK1.out)):gb2≠gb1));clear HO0_2;clear HO0_3;clear BK1;clear HK;clear HB;have HO0_2:=n0_;have HO0_3:=n1_;have BK1:=n2_;have HK:=n3_;have HB:=n4_;have BK2:=n5_;have GW2:=n6_;have GE2:=n7_;have NB1_2:=n8_;have NB2_1:=n9_;clear n0_ n1_ n2_ n3_ n4_ n5_ n6_ n7_ n8_ n9_;clear hb hbox hg))
 go_loopg [3] k (fun kq v3 w'=>∃ (x3_1:Int) (x2000_1:Int) (x2001_1:Int) (x2002_1:List (S56)) (x2003_1:List Int) (u2002:Value) (u2003:Value),v3=.int .i64 x3_1∧Aside0 (mosaicref18_Table_Roll.l0 kq x3_1 x2000_1 x2001_1 x2002_1 x2003_1=some (r1,r2,r3,r4))∧Aside0 (kq≤k)∧Aside0 (Kd.R k56 56 w' w0.heap.size (fun k_=>((P0_2_ k_∨P0_3_ k_)∨w.heap.size≤k_)) u2002 x2002_1)∧Aside0 (Kd.R (Kd.int .i64) 3 w' w0.heap.size (fun k_=>((P0_2_ k_∨P0_3_ k_)∨w.heap.size≤k_)) u2003 x2003_1)∧Aside0 (w'.heap[gb1]?=some (.cells #[.int .i64 x2000_1,.int .i64 x2001_1,u2002,u2003] 45 (0,0)))∧Aside0 (w'.heap[gb2]?=some (.cells #[.int .i64 0,.int .i64 0,(.slice none 0 0),(.slice none 0 0)] 45 (0,0)))∧Aside0 (Kept w w' (fun k_=>P0_2_ k_∨P0_3_ k_))∧Aside0 (Below w0.heap.size w0 w'))
 case atStart=>exact ⟨(0),(a0_0),(a0_1),(l0_2),(l0_3),(.slice Ao2 l0_2.length co2),(.slice Ao3 l0_3.length co3),(by first|rfl|(simp;done)|(simp [*];done)),H',⟨Nat.le_refl _⟩,⟨by (with_reducible repeat (first|apply Kd.R_alloc|apply Kd.R_drewN|apply Kd.R_drew));exact HO0_2.out⟩,⟨by (with_reducible repeat (first|apply Kd.R_alloc|apply Kd.R_drewN|apply Kd.R_drew));exact HO0_3.out⟩,⟨by (with_reducible repeat (first|refine blk_drewN ?_ _|refine blk_drew ?_|refine blk_alloc ?_ _));exact BK1.out⟩,⟨by (with_reducible repeat (first|refine blk_drewN ?_ _|refine blk_drew ?_|refine blk_alloc ?_ _));exact BK2.out⟩,⟨by repeat (first|(with_reducible first|exact HK.out|apply Kept.alloc|apply Kept.drewN|apply Kept.drew|refine Kept.setCell ?_ (.inr GW1.out) _|refine Kept.setCell ?_ (.inr GW2.out) _)|exact HK.out)⟩,⟨by repeat (first|(with_reducible first|exact HB.out|apply below_alloc|apply pw_below_drewN|apply below_drew1|refine below_set ?_ GE1.out|refine below_set ?_ GE2.out)|exact HB.out)⟩⟩
 case round =>
  clear H'
  try clear p2
  try clear c5
  obtain ⟨x3_1,x2000_1,x2001_1,x2002_1,x2003_1,u2002,u2003,rfl,HA,HK1,HO_2002,HO_2003,BK1,BK2,HK,HB⟩:=hrel
  cases gk with
  | zero=>exact absurd HA.out (by simp [mosaicref18_Table_Roll.l0])
  | succ k1 =>
   have H:=HA.out
   clear HA
   simp only [mosaicref18_Table_Roll.l0] at H
   by_cases c6:x3_1 < (x2002_1.length:Int)
   ·
    rw [if_pos c6] at H
    have c6b0:decide (x3_1 < (x2002_1.length:Int))=true:=decide_eq_true c6
    clear c6
    by_cases c7:0≤x3_1
    ·
     rw [if_pos c7] at H
     have c7b0:decide (0≤x3_1)=true:=decide_eq_true c7
     clear c7
     replace H:=Option.bind_eq_some_iff.mp H
     obtain ⟨⟨t5,t6,t7,t10⟩,A80,H⟩:=H
     replace H:(mosaicref18_Table_Roll.l0 k1 (wrap64 (x3_1+1)) t5 t6 t7 t10)=some (r1,r2,r3,r4):=H
     have A8:=Aside0.mk A80
     clear A80
     have H':=Aside0.mk H
     clear H
     have hnb9:=NB1_2.out
     have hnc9:=NB2_1.out
     have hcz10_0:wr.cell? ⟨gb1,0,none⟩=some (.int .i64 x2000_1):=(blk_cell BK1.out 0).trans rfl
     have hcz10_1:wr.cell? ⟨gb1,1,none⟩=some (.int .i64 x2001_1):=(blk_cell BK1.out 1).trans rfl
     have hcz10_2:wr.cell? ⟨gb1,2,none⟩=some (u2002):=(blk_cell BK1.out 2).trans rfl
     have hcz10_3:wr.cell? ⟨gb1,3,none⟩=some (u2003):=(blk_cell BK1.out 3).trans rfl
     have hfz10_0:=blk_frozen BK1.out 0
     have hfz10_1:=blk_frozen BK1.out 1
     have hfz10_2:=blk_frozen BK1.out 2
     have hfz10_3:=blk_frozen BK1.out 3
     obtain ⟨Ao11,co11,eo11⟩:=Kd.R_slice HO_2002.out
     subst eo11
     have p3:0≤(x3_1:Int):=of_decide_eq_true (by first|(with_reducible assumption)|assumption)
     have q3:x3_1 < (x2002_1.length:Int):=of_decide_eq_true (by first|(with_reducible assumption)|assumption)
     obtain ⟨ad3,e3,hx3_0,hx3_1,hx3_2,hx3_3,hx3_4,hx3_5,hx3_6,hx3_7,hx3_8,hx3_9⟩:=at_T56 (Kd.R_reads' HO_2002.out).2.2 x3_1 p3 q3
     cases e3
     replace p3:=eq_true p3
     replace q3:=eq_true q3
     go_wp2_with (first|((with_reducible refine gate_dst (N:=4) rfl ?_);refine box_event ?hg (N:=4) ?hd (cs:=#[.int .i64 0,.int .i64 0,.int .i64 0,.string (⟨#[]⟩:ByteArray),.bool false,.bool false,.bool false,.int .i64 0,.int .i64 0,.int .i64 0]) (t:=56) ?hr ?_;(case hd=>rfl);(case hg=>rfl);(case hr=>first|(go_simp;done)|(go_simp;rfl));intro gb4 hg w12 hbox hb;have n0_:=Aside0.mk (Kd.R_below (Kd.R_elderB (by (with_reducible repeat (first|apply Kd.R_alloc|apply Kd.R_drewN|apply Kd.R_drew));exact HO_2002.out) gb4 (Nat.le_of_eq hg.symm)) hb);have n1_:=Aside0.mk (Kd.R_below (by (with_reducible repeat (first|apply Kd.R_alloc|apply Kd.R_drewN|apply Kd.R_drew));exact HO_2003.out) hb);have n2_:=Aside0.mk (blk_below (g:=gb1) (o:=.cells #[.int .i64 x2000_1,.int .i64 x2001_1,.slice (some ad3) x2002_1.length co11,u2003] 45 (0,0)) (by (with_reducible repeat (first|refine blk_drewN ?_ _|refine blk_drew ?_|refine blk_alloc ?_ _));exact BK1.out) hb);have n3_:=Aside0.mk (blk_below (g:=gb2) (o:=.cells #[.int .i64 0,.int .i64 0,.slice none 0 0,.slice none 0 0] 45 (0,0)) (by (with_reducible repeat (first|refine blk_drewN ?_ _|refine blk_drew ?_|refine blk_alloc ?_ _));exact BK2.out) hb);have n4_:=Aside0.mk (Kept.below (S:=(fun k_=>P0_2_ k_∨P0_3_ k_)) (by repeat (first|(with_reducible first|exact HK.out|apply Kept.alloc|apply Kept.drewN|apply Kept.drew|refine Kept.setCell ?_ (.inr GW1.out) _|refine Kept.setCell ?_ (.inr GW2.out) _)|exact HK.out)) hb);have n5_:=Aside0.mk (below_step (by repeat (first|(with_reducible first|exact HB.out|apply below_alloc|apply pw_below_drewN|apply below_drew1|refine below_set ?_ GE1.out|refine below_set ?_ GE2.out)|exact HB.out)) hb);have n6_:=Aside0.mk (hbox);have n7_:=Aside0.mk ((by rw [hg];exact (by first|exact HK.out.1|exact (show Kept w _ (fun k_=>P0_2_ k_∨P0_3_ k_) from by repeat (first|(with_reducible first|exact HK.out|apply Kept.alloc|apply Kept.drewN|apply Kept.drew|refine Kept.setCell ?_ (.inr GW1.out) _|refine Kept.setCell ?_ (.inr GW2.out) _)|exact HK.out)).1):w.heap.size≤gb4));have n8_:=Aside0.mk ((by rw [hg];exact (below_size (by repeat (first|(with_reducible first|exact HB.out|apply below_alloc|apply pw_below_drewN|apply below_drew1|refine below_set ?_ GE1.out|refine below_set ?_ GE2.out)|exact HB.out))):w0.heap.size≤gb4));have n9_:=Aside0.mk ((by rw [hg];exact Nat.ne_of_lt (blk_lt (g:=gb1) (o:=.cells #[.int .i64 x2000_1,.int .i64 x2001_1,.slice (some ad3) x2002_1.length co11,u2003] 45 (0,0)) (by (with_reducible repeat (first|refine blk_drewN ?_ _|refine blk_drew ?_|refine blk_alloc ?_ _));exact BK1.out)):gb1≠gb4));have n10_:=Aside0.mk ((by rw [hg];exact Nat.ne_of_gt (blk_lt (g:=gb1) (o:=.cells #[.int .i64 x2000_1,.int .i64 x2001_1,.slice (some ad3) x2002_1.length co11,u2003] 45 (0,0)) (by (with_reducible repeat (first|refine blk_drewN ?_ _|refine blk_drew ?_|refine blk_alloc ?_ _));exact BK1.out)):gb4≠gb1));have n11_:=Aside0.mk ((by rw [hg];exact Nat.ne_of_lt (blk_lt (g:=gb2) (o:=.cells #[.int .i64 0,.int .i64 0,.slice none 0 0,.slice none 0 0] 45 (0,0)) (by (with_reducible repeat (first|refine blk_drewN ?_ _|refine blk_drew ?_|refine blk_alloc ?_ _));exact BK2.out)):gb2≠gb4));have n12_:=Aside0.mk ((by rw [hg];exact Nat.ne_of_gt (blk_lt (g:=gb2) (o:=.cells #[.int .i64 0,.int .i64 0,.slice none 0 0,.slice none 0 0] 45 (0,0)) (by (with_reducible repeat (first|refine blk_drewN ?_ _|refine blk_drew ?_|refine blk_alloc ?_ _));exact BK2.out)):gb4≠gb2));clear HO_2002;clear HO_2003;clear BK1;clear BK2;clear HK;clear HB;have HO_2002:=n0_;have HO_2003:=n1_;have BK1:=n2_;have BK2:=n3_;have HK:=n4_;have HB:=n5_;have BK4:=n6_;have GW4:=n7_;have GE4:=n8_;have NB1_4:=n9_;have NB4_1:=n10_;have NB2_4:=n11_;have NB4_2:=n12_;clear n0_ n1_ n2_ n3_ n4_ n5_ n6_ n7_ n8_ n9_ n10_ n11_ n12_;clear hb hbox hg;have hnb13:=NB4_1.out;have hnc13:=NB1_4.out;have hnb14:=NB4_2.out;have hnc14:=NB2_4.out;have hcz15_0:w12.cell? ⟨gb4,0,none⟩=some (.int .i64 0):=(blk_cell BK4.out 0).trans rfl;have hcz15_1:w12.cell? ⟨gb4,1,none⟩=some (.int .i64 0):=(blk_cell BK4.out 1).trans rfl;have hcz15_2:w12.cell? ⟨gb4,2,none⟩=some (.int .i64 0):=(blk_cell BK4.out 2).trans rfl;have hcz15_3:w12.cell? ⟨gb4,3,none⟩=some (.string (⟨#[]⟩:ByteArray)):=(blk_cell BK4.out 3).trans rfl;have hcz15_4:w12.cell? ⟨gb4,4,none⟩=some (.bool false):=(blk_cell BK4.out 4).trans rfl;have hcz15_5:w12.cell? ⟨gb4,5,none⟩=some (.bool false):=(blk_cell BK4.out 5).trans rfl;have hcz15_6:w12.cell? ⟨gb4,6,none⟩=some (.bool false):=(blk_cell BK4.out 6).trans rfl;have hcz15_7:w12.cell? ⟨gb4,7,none⟩=some (.int .i64 0):=(blk_cell BK4.out 7).trans rfl;have hcz15_8:w12.cell? ⟨gb4,8,none⟩=some (.int .i64 0):=(blk_cell BK4.out 8).trans rfl;have hcz15_9:w12.cell? ⟨gb4,9,none⟩=some (.int .i64 0):=(blk_cell BK4.out 9).trans rfl;have hfz15_0:=blk_frozen BK4.out 0;have hfz15_1:=blk_frozen BK4.out 1;have hfz15_2:=blk_frozen BK4.out 2;have hfz15_3:=blk_frozen BK4.out 3;have hfz15_4:=blk_frozen BK4.out 4;have hfz15_5:=blk_frozen BK4.out 5;have hfz15_6:=blk_frozen BK4.out 6;have hfz15_7:=blk_frozen BK4.out 7;have hfz15_8:=blk_frozen BK4.out 8;have hfz15_9:=blk_frozen BK4.out 9)|((with_reducible refine gate_store (t:=56) (p:=4) rfl ?_);refine store_event (t:=56) (p:=4) (v:=?vo_w16) (w1:=((((((((((w12.setCell ⟨gb4,0,none⟩ (.int .i64 ((rd_T56 x2002_1 x3_1).f0))).setCell ⟨gb4,1,none⟩ (.int .i64 ((rd_T56 x2002_1 x3_1).f1.f0))).setCell ⟨gb4,2,none⟩ (.int .i64 ((rd_T56 x2002_1 x3_1).f1.f1))).setCell ⟨gb4,3,none⟩ (.string ((rd_T56 x2002_1 x3_1).f2))).setCell ⟨gb4,4,none⟩ (.bool ((rd_T56 x2002_1 x3_1).f3))).setCell ⟨gb4,5,none⟩ (.bool ((rd_T56 x2002_1 x3_1).f4))).setCell ⟨gb4,6,none⟩ (.bool ((rd_T56 x2002_1 x3_1).f5))).setCell ⟨gb4,7,none⟩ (.int .i64 ((rd_T56 x2002_1 x3_1).f6))).setCell ⟨gb4,8,none⟩ (.int .i64 ((rd_T56 x2002_1 x3_1).f7))).setCell ⟨gb4,9,none⟩ (.int .i64 ((rd_T56 x2002_1 x3_1).f8)))) ?hg ?ho ?hn ?hr ?_;(case ho=>rfl);(case hg=>rfl);(case hn=>rfl);(case hr=>first|(go_simp;done)|(go_simp;rfl));intro w16 hw;have n0_:Aside0 (Kd.R k56 56 w16 w0.heap.size (fun k_=>((P0_2_ k_∨P0_3_ k_)∨w.heap.size≤k_)∧k_≠gb4) (.slice (some ad3) x2002_1.length co11) x2002_1):=⟨(by rw [hw];exact (by (with_reducible repeat (first|apply Kd.R_alloc|apply Kd.R_drewN|apply Kd.R_drew));exact Kd.R_mono (Kd.R_far (p:=⟨gb4,9,none⟩) (Kd.R_far (p:=⟨gb4,8,none⟩) (Kd.R_far (p:=⟨gb4,7,none⟩) (Kd.R_far (p:=⟨gb4,6,none⟩) (Kd.R_far (p:=⟨gb4,5,none⟩) (Kd.R_far (p:=⟨gb4,4,none⟩) (Kd.R_far (p:=⟨gb4,3,none⟩) (Kd.R_far (p:=⟨gb4,2,none⟩) (Kd.R_far (p:=⟨gb4,1,none⟩) (Kd.R_far (p:=⟨gb4,0,none⟩) (Kd.R_mono HO_2002.out (fun k_ hk=>(⟨hk,hk.2⟩:_∧k_≠gb4))) (fun _ hk=>hk.2) (.int .i64 ((rd_T56 x2002_1 x3_1).f0))) (fun _ hk=>hk.2) (.int .i64 ((rd_T56 x2002_1 x3_1).f1.f0))) (fun _ hk=>hk.2) (.int .i64 ((rd_T56 x2002_1 x3_1).f1.f1))) (fun _ hk=>hk.2) (.string ((rd_T56 x2002_1 x3_1).f2))) (fun _ hk=>hk.2) (.bool ((rd_T56 x2002_1 x3_1).f3))) (fun _ hk=>hk.2) (.bool ((rd_T56 x2002_1 x3_1).f4))) (fun _ hk=>hk.2) (.bool ((rd_T56 x2002_1 x3_1).f5))) (fun _ hk=>hk.2) (.int .i64 ((rd_T56 x2002_1 x3_1).f6))) (fun _ hk=>hk.2) (.int .i64 ((rd_T56 x2002_1 x3_1).f7))) (fun _ hk=>hk.2) (.int .i64 ((rd_T56 x2002_1 x3_1).f8))) (fun _ hk=>⟨hk.1.1,hk.1.2⟩)))⟩;have n1_:Aside0 (Kd.R (Kd.int .i64) 3 w16 w0.heap.size (fun k_=>((P0_2_ k_∨P0_3_ k_)∨w.heap.size≤k_)) u2003 x2003_1):=⟨(by rw [hw];exact (by (with_reducible repeat (first|apply Kd.R_alloc|apply Kd.R_drewN|apply Kd.R_drew));exact Kd.R_mono (Kd.R_far (p:=⟨gb4,9,none⟩) (Kd.R_far (p:=⟨gb4,8,none⟩) (Kd.R_far (p:=⟨gb4,7,none⟩) (Kd.R_far (p:=⟨gb4,6,none⟩) (Kd.R_far (p:=⟨gb4,5,none⟩) (Kd.R_far (p:=⟨gb4,4,none⟩) (Kd.R_far (p:=⟨gb4,3,none⟩) (Kd.R_far (p:=⟨gb4,2,none⟩) (Kd.R_far (p:=⟨gb4,1,none⟩) (Kd.R_far (p:=⟨gb4,0,none⟩) (Kd.R_types HO_2003.out BK4.out (by decide)) (fun _ hk=>hk.2) (.int .i64 ((rd_T56 x2002_1 x3_1).f0))) (fun _ hk=>hk.2) (.int .i64 ((rd_T56 x2002_1 x3_1).f1.f0))) (fun _ hk=>hk.2) (.int .i64 ((rd_T56 x2002_1 x3_1).f1.f1))) (fun _ hk=>hk.2) (.string ((rd_T56 x2002_1 x3_1).f2))) (fun _ hk=>hk.2) (.bool ((rd_T56 x2002_1 x3_1).f3))) (fun _ hk=>hk.2) (.bool ((rd_T56 x2002_1 x3_1).f4))) (fun _ hk=>hk.2) (.bool ((rd_T56 x2002_1 x3_1).f5))) (fun _ hk=>hk.2) (.int .i64 ((rd_T56 x2002_1 x3_1).f6))) (fun _ hk=>hk.2) (.int .i64 ((rd_T56 x2002_1 x3_1).f7))) (fun _ hk=>hk.2) (.int .i64 ((rd_T56 x2002_1 x3_1).f8))) (fun _ hk=>hk.1)))⟩;have n2_:Aside0 (w16.heap[gb1]?=some (.cells #[.int .i64 x2000_1,.int .i64 x2001_1,.slice (some ad3) x2002_1.length co11,u2003] 45 (0,0))):=⟨(by rw [hw];exact (by (with_reducible repeat (first|refine blk_drewN ?_ _|refine blk_drew ?_|refine blk_alloc ?_ _));refine blk_far ?_ NB1_4.out _;(with_reducible repeat (first|refine blk_drewN ?_ _|refine blk_drew ?_|refine blk_alloc ?_ _));refine blk_far ?_ NB1_4.out _;(with_reducible repeat (first|refine blk_drewN ?_ _|refine blk_drew ?_|refine blk_alloc ?_ _));refine blk_far ?_ NB1_4.out _;(with_reducible repeat (first|refine blk_drewN ?_ _|refine blk_drew ?_|refine blk_alloc ?_ _));refine blk_far ?_ NB1_4.out _;(with_reducible repeat (first|refine blk_drewN ?_ _|refine blk_drew ?_|refine blk_alloc ?_ _));refine blk_far ?_ NB1_4.out _;(with_reducible repeat (first|refine blk_drewN ?_ _|refine blk_drew ?_|refine blk_alloc ?_ _));refine blk_far ?_ NB1_4.out _;(with_reducible repeat (first|refine blk_drewN ?_ _|refine blk_drew ?_|refine blk_alloc ?_ _));refine blk_far ?_ NB1_4.out _;(with_reducible repeat (first|refine blk_drewN ?_ _|refine blk_drew ?_|refine blk_alloc ?_ _));refine blk_far ?_ NB1_4.out _;(with_reducible repeat (first|refine blk_drewN ?_ _|refine blk_drew ?_|refine blk_alloc ?_ _));refine blk_far ?_ NB1_4.out _;(with_reducible repeat (first|refine blk_drewN ?_ _|refine blk_drew ?_|refine blk_alloc ?_ _));refine blk_far ?_ NB1_4.out _;(with_reducible repeat (first|refine blk_drewN ?_ _|refine blk_drew ?_|refine blk_alloc ?_ _));exact BK1.out))⟩;have n3_:Aside0 (w16.heap[gb2]?=some (.cells #[.int .i64 0,.int .i64 0,.slice none 0 0,.slice none 0 0] 45 (0,0))):=⟨(by rw [hw];exact (by (with_reducible repeat (first|refine blk_drewN ?_ _|refine blk_drew ?_|refine blk_alloc ?_ _));refine blk_far ?_ NB2_4.out _;(with_reducible repeat (first|refine blk_drewN ?_ _|refine blk_drew ?_|refine blk_alloc ?_ _));refine blk_far ?_ NB2_4.out _;(with_reducible repeat (first|refine blk_drewN ?_ _|refine blk_drew ?_|refine blk_alloc ?_ _));refine blk_far ?_ NB2_4.out _;(with_reducible repeat (first|refine blk_drewN ?_ _|refine blk_drew ?_|refine blk_alloc ?_ _));refine blk_far ?_ NB2_4.out _;(with_reducible repeat (first|refine blk_drewN ?_ _|refine blk_drew ?_|refine blk_alloc ?_ _));refine blk_far ?_ NB2_4.out _;(with_reducible repeat (first|refine blk_drewN ?_ _|refine blk_drew ?_|refine blk_alloc ?_ _));refine blk_far ?_ NB2_4.out _;(with_reducible repeat (first|refine blk_drewN ?_ _|refine blk_drew ?_|refine blk_alloc ?_ _));refine blk_far ?_ NB2_4.out _;(with_reducible repeat (first|refine blk_drewN ?_ _|refine blk_drew ?_|refine blk_alloc ?_ _));refine blk_far ?_ NB2_4.out _;(with_reducible repeat (first|refine blk_drewN ?_ _|refine blk_drew ?_|refine blk_alloc ?_ _));refine blk_far ?_ NB2_4.out _;(with_reducible repeat (first|refine blk_drewN ?_ _|refine blk_drew ?_|refine blk_alloc ?_ _));refine blk_far ?_ NB2_4.out _;(with_reducible repeat (first|refine blk_drewN ?_ _|refine blk_drew ?_|refine blk_alloc ?_ _));exact BK2.out))⟩;have n4_:Aside0 (w16.heap[gb4]?=some (.cells #[.int .i64 ((rd_T56 x2002_1 x3_1).f0),.int .i64 ((rd_T56 x2002_1 x3_1).f1.f0),.int .i64 ((rd_T56 x2002_1 x3_1).f1.f1),.string ((rd_T56 x2002_1 x3_1).f2),.bool ((rd_T56 x2002_1 x3_1).f3),.bool ((rd_T56 x2002_1 x3_1).f4),.bool ((rd_T56 x2002_1 x3_1).f5),.int .i64 ((rd_T56 x2002_1 x3_1).f6),.int .i64 ((rd_T56 x2002_1 x3_1).f7),.int .i64 ((rd_T56 x2002_1 x3_1).f8)] 56 (0,0))):=⟨(by rw [hw];exact (by (with_reducible repeat (first|refine blk_drewN ?_ _|refine blk_drew ?_|refine blk_alloc ?_ _));refine blk_put (cs:=#[.int .i64 ((rd_T56 x2002_1 x3_1).f0),.int .i64 ((rd_T56 x2002_1 x3_1).f1.f0),.int .i64 ((rd_T56 x2002_1 x3_1).f1.f1),.string ((rd_T56 x2002_1 x3_1).f2),.bool ((rd_T56 x2002_1 x3_1).f3),.bool ((rd_T56 x2002_1 x3_1).f4),.bool ((rd_T56 x2002_1 x3_1).f5),.int .i64 ((rd_T56 x2002_1 x3_1).f6),.int .i64 ((rd_T56 x2002_1 x3_1).f7),.int .i64 0]) ?_ 9 _ rfl;(with_reducible repeat (first|refine blk_drewN ?_ _|refine blk_drew ?_|refine blk_alloc ?_ _));refine blk_put (cs:=#[.int .i64 ((rd_T56 x2002_1 x3_1).f0),.int .i64 ((rd_T56 x2002_1 x3_1).f1.f0),.int .i64 ((rd_T56 x2002_1 x3_1).f1.f1),.string ((rd_T56 x2002_1 x3_1).f2),.bool ((rd_T56 x2002_1 x3_1).f3),.bool ((rd_T56 x2002_1 x3_1).f4),.bool ((rd_T56 x2002_1 x3_1).f5),.int .i64 ((rd_T56 x2002_1 x3_1).f6),.int .i64 0,.int .i64 0]) ?_ 8 _ rfl;(with_reducible repeat (first|refine blk_drewN ?_ _|refine blk_drew ?_|refine blk_alloc ?_ _));refine blk_put (cs:=#[.int .i64 ((rd_T56 x2002_1 x3_1).f0),.int .i64 ((rd_T56 x2002_1 x3_1).f1.f0),.int .i64 ((rd_T56 x2002_1 x3_1).f1.f1),.string ((rd_T56 x2002_1 x3_1).f2),.bool ((rd_T56 x2002_1 x3_1).f3),.bool ((rd_T56 x2002_1 x3_1).f4),.bool ((rd_T56 x2002_1 x3_1).f5),.int .i64 0,.int .i64 0,.int .i64 0]) ?_ 7 _ rfl;(with_reducible repeat (first|refine blk_drewN ?_ _|refine blk_drew ?_|refine blk_alloc ?_ _));refine blk_put (cs:=#[.int .i64 ((rd_T56 x2002_1 x3_1).f0),.int .i64 ((rd_T56 x2002_1 x3_1).f1.f0),.int .i64 ((rd_T56 x2002_1 x3_1).f1.f1),.string ((rd_T56 x2002_1 x3_1).f2),.bool ((rd_T56 x2002_1 x3_1).f3),.bool ((rd_T56 x2002_1 x3_1).f4),.bool false,.int .i64 0,.int .i64 0,.int .i64 0]) ?_ 6 _ rfl;(with_reducible repeat (first|refine blk_drewN ?_ _|refine blk_drew ?_|refine blk_alloc ?_ _));refine blk_put (cs:=#[.int .i64 ((rd_T56 x2002_1 x3_1).f0),.int .i64 ((rd_T56 x2002_1 x3_1).f1.f0),.int .i64 ((rd_T56 x2002_1 x3_1).f1.f1),.string ((rd_T56 x2002_1 x3_1).f2),.bool ((rd_T56 x2002_1 x3_1).f3),.bool false,.bool false,.int .i64 0,.int .i64 0,.int .i64 0]) ?_ 5 _ rfl;(with_reducible repeat (first|refine blk_drewN ?_ _|refine blk_drew ?_|refine blk_alloc ?_ _));refine blk_put (cs:=#[.int .i64 ((rd_T56 x2002_1 x3_1).f0),.int .i64 ((rd_T56 x2002_1 x3_1).f1.f0),.int .i64 ((rd_T56 x2002_1 x3_1).f1.f1),.string ((rd_T56 x2002_1 x3_1).f2),.bool false,.bool false,.bool false,.int .i64 0,.int .i64 0,.int .i64 0]) ?_ 4 _ rfl;(with_reducible repeat (first|refine blk_drewN ?_ _|refine blk_drew ?_|refine blk_alloc ?_ _));refine blk_put (cs:=#[.int .i64 ((rd_T56 x2002_1 x3_1).f0),.int .i64 ((rd_T56 x2002_1 x3_1).f1.f0),.int .i64 ((rd_T56 x2002_1 x3_1).f1.f1),.string (⟨#[]⟩:ByteArray),.bool false,.bool false,.bool false,.int .i64 0,.int .i64 0,.int .i64 0]) ?_ 3 _ rfl;(with_reducible repeat (first|refine blk_drewN ?_ _|refine blk_drew ?_|refine blk_alloc ?_ _));refine blk_put (cs:=#[.int .i64 ((rd_T56 x2002_1 x3_1).f0),.int .i64 ((rd_T56 x2002_1 x3_1).f1.f0),.int .i64 0,.string (⟨#[]⟩:ByteArray),.bool false,.bool false,.bool false,.int .i64 0,.int .i64 0,.int .i64 0]) ?_ 2 _ rfl;(with_reducible repeat (first|refine blk_drewN ?_ _|refine blk_drew ?_|refine blk_alloc ?_ _));refine blk_put (cs:=#[.int .i64 ((rd_T56 x2002_1 x3_1).f0),.int .i64 0,.int .i64 0,.string (⟨#[]⟩:ByteArray),.bool false,.bool false,.bool false,.int .i64 0,.int .i64 0,.int .i64 0]) ?_ 1 _ rfl;(with_reducible repeat (first|refine blk_drewN ?_ _|refine blk_drew ?_|refine blk_alloc ?_ _));refine blk_put (cs:=#[.int .i64 0,.int .i64 0,.int .i64 0,.string (⟨#[]⟩:ByteArray),.bool false,.bool false,.bool false,.int .i64 0,.int .i64 0,.int .i64 0]) ?_ 0 _ rfl;(with_reducible repeat (first|refine blk_drewN ?_ _|refine blk_drew ?_|refine blk_alloc ?_ _));exact BK4.out))⟩;have n5_:Aside0 (Kept w w16 (fun k_=>P0_2_ k_∨P0_3_ k_)):=⟨(by rw [hw];exact (by repeat (first|(with_reducible first|exact HK.out|apply Kept.alloc|apply Kept.drewN|apply Kept.drew|refine Kept.setCell ?_ (.inr GW1.out) _|refine Kept.setCell ?_ (.inr GW2.out) _|refine Kept.setCell ?_ (.inr GW4.out) _)|exact HK.out)))⟩;have n6_:Aside0 (Below w0.heap.size w0 w16):=⟨(by rw [hw];exact (by repeat (first|(with_reducible first|exact HB.out|apply below_alloc|apply pw_below_drewN|apply below_drew1|refine below_set ?_ GE1.out|refine below_set ?_ GE2.out|refine below_set ?_ GE4.out)|exact HB.out)))⟩;clear hw;clear HO_2002;clear HO_2003;clear BK1;clear BK2;clear BK4;clear HK;clear HB;have HO_2002:=n0_;have HO_2003:=n1_;have BK1:=n2_;have BK2:=n3_;have BK4:=n4_;have HK:=n5_;have HB:=n6_;clear n0_ n1_ n2_ n3_ n4_ n5_ n6_;have hcz17_0:w16.cell? ⟨gb4,0,none⟩=some (.int .i64 ((rd_T56 x2002_1 x3_1).f0)):=(blk_cell BK4.out 0).trans rfl;have hcz17_1:w16.cell? ⟨gb4,1,none⟩=some (.int .i64 ((rd_T56 x2002_1 x3_1).f1.f0)):=(blk_cell BK4.out 1).trans rfl;have hcz17_2:w16.cell? ⟨gb4,2,none⟩=some (.int .i64 ((rd_T56 x2002_1 x3_1).f1.f1)):=(blk_cell BK4.out 2).trans rfl;have hcz17_3:w16.cell? ⟨gb4,3,none⟩=some (.string ((rd_T56 x2002_1 x3_1).f2)):=(blk_cell BK4.out 3).trans rfl;have hcz17_4:w16.cell? ⟨gb4,4,none⟩=some (.bool ((rd_T56 x2002_1 x3_1).f3)):=(blk_cell BK4.out 4).trans rfl;have hcz17_5:w16.cell? ⟨gb4,5,none⟩=some (.bool ((rd_T56 x2002_1 x3_1).f4)):=(blk_cell BK4.out 5).trans rfl;have hcz17_6:w16.cell? ⟨gb4,6,none⟩=some (.bool ((rd_T56 x2002_1 x3_1).f5)):=(blk_cell BK4.out 6).trans rfl;have hcz17_7:w16.cell? ⟨gb4,7,none⟩=some (.int .i64 ((rd_T56 x2002_1 x3_1).f6)):=(blk_cell BK4.out 7).trans rfl;have hcz17_8:w16.cell? ⟨gb4,8,none⟩=some (.int .i64 ((rd_T56 x2002_1 x3_1).f7)):=(blk_cell BK4.out 8).trans rfl;have hcz17_9:w16.cell? ⟨gb4,9,none⟩=some (.int .i64 ((rd_T56 x2002_1 x3_1).f8)):=(blk_cell BK4.out 9).trans rfl;have hfz17_0:=blk_frozen BK4.out 0;have hfz17_1:=blk_frozen BK4.out 1;have hfz17_2:=blk_frozen BK4.out 2;have hfz17_3:=blk_frozen BK4.out 3;have hfz17_4:=blk_frozen BK4.out 4;have hfz17_5:=blk_frozen BK4.out 5;have hfz17_6:=blk_frozen BK4.out 6;have hfz17_7:=blk_frozen BK4.out 7;have hfz17_8:=blk_frozen BK4.out 8;have hfz17_9:=blk_frozen BK4.out 9)|((with_reducible refine gate_store (t:=3) (p:=19) rfl ?_);refine store_event (t:=3) (p:=19) (v:=?vo_w18) (w1:=(w16.setCell ⟨gb4,9,none⟩ (.int .i64 ((rd_T56 x2002_1 x3_1).f7)))) ?hg ?ho ?hn ?hr ?_;(case ho=>rfl);(case hg=>rfl);(case hn=>rfl);(case hr=>first|(go_simp;done)|(go_simp;rfl));intro w18 hw;have n0_:Aside0 (Kd.R k56 56 w18 w0.heap.size (fun k_=>((P0_2_ k_∨P0_3_ k_)∨w.heap.size≤k_)∧k_≠gb4) (.slice (some ad3) x2002_1.length co11) x2002_1):=⟨(by rw [hw];exact (by (with_reducible repeat (first|apply Kd.R_alloc|apply Kd.R_drewN|apply Kd.R_drew));exact Kd.R_mono (Kd.R_far (p:=⟨gb4,9,none⟩) (Kd.R_mono HO_2002.out (fun k_ hk=>(⟨hk,hk.2⟩:_∧k_≠gb4))) (fun _ hk=>hk.2) (.int .i64 ((rd_T56 x2002_1 x3_1).f7))) (fun _ hk=>⟨hk.1.1,hk.1.2⟩)))⟩;have n1_:Aside0 (Kd.R (Kd.int .i64) 3 w18 w0.heap.size (fun k_=>((P0_2_ k_∨P0_3_ k_)∨w.heap.size≤k_)) u2003 x2003_1):=⟨(by rw [hw];exact (by (with_reducible repeat (first|apply Kd.R_alloc|apply Kd.R_drewN|apply Kd.R_drew));exact Kd.R_mono (Kd.R_far (p:=⟨gb4,9,none⟩) (Kd.R_types HO_2003.out BK4.out (by decide)) (fun _ hk=>hk.2) (.int .i64 ((rd_T56 x2002_1 x3_1).f7))) (fun _ hk=>hk.1)))⟩;have n2_:Aside0 (w18.heap[gb1]?=some (.cells #[.int .i64 x2000_1,.int .i64 x2001_1,.slice (some ad3) x2002_1.length co11,u2003] 45 (0,0))):=⟨(by rw [hw];exact (by (with_reducible repeat (first|refine blk_drewN ?_ _|refine blk_drew ?_|refine blk_alloc ?_ _));refine blk_far ?_ NB1_4.out _;(with_reducible repeat (first|refine blk_drewN ?_ _|refine blk_drew ?_|refine blk_alloc ?_ _));exact BK1.out))⟩;have n3_:Aside0 (w18.heap[gb2]?=some (.cells #[.int .i64 0,.int .i64 0,.slice none 0 0,.slice none 0 0] 45 (0,0))):=⟨(by rw [hw];exact (by (with_reducible repeat (first|refine blk_drewN ?_ _|refine blk_drew ?_|refine blk_alloc ?_ _));refine blk_far ?_ NB2_4.out _;(with_reducible repeat (first|refine blk_drewN ?_ _|refine blk_drew ?_|refine blk_alloc ?_ _));exact BK2.out))⟩;have n4_:Aside0 (w18.heap[gb4]?=some (.cells #[.int .i64 ((rd_T56 x2002_1 x3_1).f0),.int .i64 ((rd_T56 x2002_1 x3_1).f1.f0),.int .i64 ((rd_T56 x2002_1 x3_1).f1.f1),.string ((rd_T56 x2002_1 x3_1).f2),.bool ((rd_T56 x2002_1 x3_1).f3),.bool ((rd_T56 x2002_1 x3_1).f4),.bool ((rd_T56 x2002_1 x3_1).f5),.int .i64 ((rd_T56 x2002_1 x3_1).f6),.int .i64 ((rd_T56 x2002_1 x3_1).f7),.int .i64 ((rd_T56 x2002_1 x3_1).f7)] 56 (0,0))):=⟨(by rw [hw];exact (by (with_reducible repeat (first|refine blk_drewN ?_ _|refine blk_drew ?_|refine blk_alloc ?_ _));refine blk_put (cs:=#[.int .i64 ((rd_T56 x2002_1 x3_1).f0),.int .i64 ((rd_T56 x2002_1 x3_1).f1.f0),.int .i64 ((rd_T56 x2002_1 x3_1).f1.f1),.string ((rd_T56 x2002_1 x3_1).f2),.bool ((rd_T56 x2002_1 x3_1).f3),.bool ((rd_T56 x2002_1 x3_1).f4),.bool ((rd_T56 x2002_1 x3_1).f5),.int .i64 ((rd_T56 x2002_1 x3_1).f6),.int .i64 ((rd_T56 x2002_1 x3_1).f7),.int .i64 ((rd_T56 x2002_1 x3_1).f8)]) ?_ 9 _ rfl;(with_reducible repeat (first|refine blk_drewN ?_ _|refine blk_drew ?_|refine blk_alloc ?_ _));exact BK4.out))⟩;have n5_:Aside0 (Kept w w18 (fun k_=>P0_2_ k_∨P0_3_ k_)):=⟨(by rw [hw];exact (by repeat (first|(with_reducible first|exact HK.out|apply Kept.alloc|apply Kept.drewN|apply Kept.drew|refine Kept.setCell ?_ (.inr GW1.out) _|refine Kept.setCell ?_ (.inr GW2.out) _|refine Kept.setCell ?_ (.inr GW4.out) _)|exact HK.out)))⟩;have n6_:Aside0 (Below w0.heap.size w0 w18):=⟨(by rw [hw];exact (by repeat (first|(with_reducible first|exact HB.out|apply below_alloc|apply pw_below_drewN|apply below_drew1|refine below_set ?_ GE1.out|refine below_set ?_ GE2.out|refine below_set ?_ GE4.out)|exact HB.out)))⟩;clear hw;clear HO_2002;clear HO_2003;clear BK1;clear BK2;clear BK4;clear HK;clear HB;have HO_2002:=n0_;have HO_2003:=n1_;have BK1:=n2_;have BK2:=n3_;have BK4:=n4_;have HK:=n5_;have HB:=n6_;clear n0_ n1_ n2_ n3_ n4_ n5_ n6_;have hcz19_0:w18.cell? ⟨gb4,0,none⟩=some (.int .i64 ((rd_T56 x2002_1 x3_1).f0)):=(blk_cell BK4.out 0).trans rfl;have hcz19_1:w18.cell? ⟨gb4,1,none⟩=some (.int .i64 ((rd_T56 x2002_1 x3_1).f1.f0)):=(blk_cell BK4.out 1).trans rfl;have hcz19_2:w18.cell? ⟨gb4,2,none⟩=some (.int .i64 ((rd_T56 x2002_1 x3_1).f1.f1)):=(blk_cell BK4.out 2).trans rfl;have hcz19_3:w18.cell? ⟨gb4,3,none⟩=some (.string ((rd_T56 x2002_1 x3_1).f2)):=(blk_cell BK4.out 3).trans rfl;have hcz19_4:w18.cell? ⟨gb4,4,none⟩=some (.bool ((rd_T56 x2002_1 x3_1).f3)):=(blk_cell BK4.out 4).trans rfl;have hcz19_5:w18.cell? ⟨gb4,5,none⟩=some (.bool ((rd_T56 x2002_1 x3_1).f4)):=(blk_cell BK4.out 5).trans rfl;have hcz19_6:w18.cell? ⟨gb4,6,none⟩=some (.bool ((rd_T56 x2002_1 x3_1).f5)):=(blk_cell BK4.out 6).trans rfl;have hcz19_7:w18.cell? ⟨gb4,7,none⟩=some (.int .i64 ((rd_T56 x2002_1 x3_1).f6)):=(blk_cell BK4.out 7).trans rfl;have hcz19_8:w18.cell? ⟨gb4,8,none⟩=some (.int .i64 ((rd_T56 x2002_1 x3_1).f7)):=(blk_cell BK4.out 8).trans rfl;have hcz19_9:w18.cell? ⟨gb4,9,none⟩=some (.int .i64 ((rd_T56 x2002_1 x3_1).f7)):=(blk_cell BK4.out 9).trans rfl;have hfz19_0:=blk_frozen BK4.out 0;have hfz19_1:=blk_frozen BK4.out 1;have hfz19_2:=blk_frozen BK4.out 2;have hfz19_3:=blk_frozen BK4.out 3;have hfz19_4:=blk_frozen BK4.out 4;have hfz19_5:=blk_frozen BK4.out 5;have hfz19_6:=blk_frozen BK4.out 6;have hfz19_7:=blk_frozen BK4.out 7;have hfz19_8:=blk_frozen BK4.out 8;have hfz19_9:=blk_frozen BK4.out 9)|((with_reducible refine gate_store (t:=3) (p:=20) rfl ?_);refine store_event (t:=3) (p:=20) (v:=?vo_w20) (w1:=(w18.setCell ⟨gb4,8,none⟩ (.int .i64 0))) ?hg ?ho ?hn ?hr ?_;(case ho=>rfl);(case hg=>rfl);(case hn=>rfl);(case hr=>first|(go_simp;done)|(go_simp;rfl));intro w20 hw;have n0_:Aside0 (Kd.R k56 56 w20 w0.heap.size (fun k_=>((P0_2_ k_∨P0_3_ k_)∨w.heap.size≤k_)∧k_≠gb4) (.slice (some ad3) x2002_1.length co11) x2002_1):=⟨(by rw [hw];exact (by (with_reducible repeat (first|apply Kd.R_alloc|apply Kd.R_drewN|apply Kd.R_drew));exact Kd.R_mono (Kd.R_far (p:=⟨gb4,8,none⟩) (Kd.R_mono HO_2002.out (fun k_ hk=>(⟨hk,hk.2⟩:_∧k_≠gb4))) (fun _ hk=>hk.2) (.int .i64 0)) (fun _ hk=>⟨hk.1.1,hk.1.2⟩)))⟩;have n1_:Aside0 (Kd.R (Kd.int .i64) 3 w20 w0.heap.size (fun k_=>((P0_2_ k_∨P0_3_ k_)∨w.heap.size≤k_)) u2003 x2003_1):=⟨(by rw [hw];exact (by (with_reducible repeat (first|apply Kd.R_alloc|apply Kd.R_drewN|apply Kd.R_drew));exact Kd.R_mono (Kd.R_far (p:=⟨gb4,8,none⟩) (Kd.R_types HO_2003.out BK4.out (by decide)) (fun _ hk=>hk.2) (.int .i64 0)) (fun _ hk=>hk.1)))⟩;have n2_:Aside0 (w20.heap[gb1]?=some (.cells #[.int .i64 x2000_1,.int .i64 x2001_1,.slice (some ad3) x2002_1.length co11,u2003] 45 (0,0))):=⟨(by rw [hw];exact (by (with_reducible repeat (first|refine blk_drewN ?_ _|refine blk_drew ?_|refine blk_alloc ?_ _));refine blk_far ?_ NB1_4.out _;(with_reducible repeat (first|refine blk_drewN ?_ _|refine blk_drew ?_|refine blk_alloc ?_ _));exact BK1.out))⟩;have n3_:Aside0 (w20.heap[gb2]?=some (.cells #[.int .i64 0,.int .i64 0,.slice none 0 0,.slice none 0 0] 45 (0,0))):=⟨(by rw [hw];exact (by (with_reducible repeat (first|refine blk_drewN ?_ _|refine blk_drew ?_|refine blk_alloc ?_ _));refine blk_far ?_ NB2_4.out _;(with_reducible repeat (first|refine blk_drewN ?_ _|refine blk_drew ?_|refine blk_alloc ?_ _));exact BK2.out))⟩;have n4_:Aside0 (w20.heap[gb4]?=some (.cells #[.int .i64 ((rd_T56 x2002_1 x3_1).f0),.int .i64 ((rd_T56 x2002_1 x3_1).f1.f0),.int .i64 ((rd_T56 x2002_1 x3_1).f1.f1),.string ((rd_T56 x2002_1 x3_1).f2),.bool ((rd_T56 x2002_1 x3_1).f3),.bool ((rd_T56 x2002_1 x3_1).f4),.bool ((rd_T56 x2002_1 x3_1).f5),.int .i64 ((rd_T56 x2002_1 x3_1).f6),.int .i64 0,.int .i64 ((rd_T56 x2002_1 x3_1).f7)] 56 (0,0))):=⟨(by rw [hw];exact (by (with_reducible repeat (first|refine blk_drewN ?_ _|refine blk_drew ?_|refine blk_alloc ?_ _));refine blk_put (cs:=#[.int .i64 ((rd_T56 x2002_1 x3_1).f0),.int .i64 ((rd_T56 x2002_1 x3_1).f1.f0),.int .i64 ((rd_T56 x2002_1 x3_1).f1.f1),.string ((rd_T56 x2002_1 x3_1).f2),.bool ((rd_T56 x2002_1 x3_1).f3),.bool ((rd_T56 x2002_1 x3_1).f4),.bool ((rd_T56 x2002_1 x3_1).f5),.int .i64 ((rd_T56 x2002_1 x3_1).f6),.int .i64 ((rd_T56 x2002_1 x3_1).f7),.int .i64 ((rd_T56 x2002_1 x3_1).f7)]) ?_ 8 _ rfl;(with_reducible repeat (first|refine blk_drewN ?_ _|refine blk_drew ?_|refine blk_alloc ?_ _));exact BK4.out))⟩;have n5_:Aside0 (Kept w w20 (fun k_=>P0_2_ k_∨P0_3_ k_)):=⟨(by rw [hw];exact (by repeat (first|(with_reducible first|exact HK.out|apply Kept.alloc|apply Kept.drewN|apply Kept.drew|refine Kept.setCell ?_ (.inr GW1.out) _|refine Kept.setCell ?_ (.inr GW2.out) _|refine Kept.setCell ?_ (.inr GW4.out) _)|exact HK.out)))⟩;have n6_:Aside0 (Below w0.heap.size w0 w20):=⟨(by rw [hw];exact (by repeat (first|(with_reducible first|exact HB.out|apply below_alloc|apply pw_below_drewN|apply below_drew1|refine below_set ?_ GE1.out|refine below_set ?_ GE2.out|refine below_set ?_ GE4.out)|exact HB.out)))⟩;clear hw;clear HO_2002;clear HO_2003;clear BK1;clear BK2;clear BK4;clear HK;clear HB;have HO_2002:=n0_;have HO_2003:=n1_;have BK1:=n2_;have BK2:=n3_;have BK4:=n4_;have HK:=n5_;have HB:=n6_;clear n0_ n1_ n2_ n3_ n4_ n5_ n6_;have hcz21_0:w20.cell? ⟨gb1,0,none⟩=some (.int .i64 x2000_1):=(blk_cell BK1.out 0).trans rfl;have hcz21_1:w20.cell? ⟨gb1,1,none⟩=some (.int .i64 x2001_1):=(blk_cell BK1.out 1).trans rfl;have hcz21_2:w20.cell? ⟨gb1,2,none⟩=some (.slice (some ad3) x2002_1.length co11):=(blk_cell BK1.out 2).trans rfl;have hcz21_3:w20.cell? ⟨gb1,3,none⟩=some (u2003):=(blk_cell BK1.out 3).trans rfl;have hfz21_0:=blk_frozen BK1.out 0;have hfz21_1:=blk_frozen BK1.out 1;have hfz21_2:=blk_frozen BK1.out 2;have hfz21_3:=blk_frozen BK1.out 3;have hcz22_0:w20.cell? ⟨gb4,0,none⟩=some (.int .i64 ((rd_T56 x2002_1 x3_1).f0)):=(blk_cell BK4.out 0).trans rfl;have hcz22_1:w20.cell? ⟨gb4,1,none⟩=some (.int .i64 ((rd_T56 x2002_1 x3_1).f1.f0)):=(blk_cell BK4.out 1).trans rfl;have hcz22_2:w20.cell? ⟨gb4,2,none⟩=some (.int .i64 ((rd_T56 x2002_1 x3_1).f1.f1)):=(blk_cell BK4.out 2).trans rfl;have hcz22_3:w20.cell? ⟨gb4,3,none⟩=some (.string ((rd_T56 x2002_1 x3_1).f2)):=(blk_cell BK4.out 3).trans rfl;have hcz22_4:w20.cell? ⟨gb4,4,none⟩=some (.bool ((rd_T56 x2002_1 x3_1).f3)):=(blk_cell BK4.out 4).trans rfl;have hcz22_5:w20.cell? ⟨gb4,5,none⟩=some (.bool ((rd_T56 x2002_1 x3_1).f4)):=(blk_cell BK4.out 5).trans rfl;have hcz22_6:w20.cell? ⟨gb4,6,none⟩=some (.bool ((rd_T56 x2002_1 x3_1).f5)):=(blk_cell BK4.out 6).trans rfl;have hcz22_7:w20.cell? ⟨gb4,7,none⟩=some (.int .i64 ((rd_T56 x2002_1 x3_1).f6)):=(blk_cell BK4.out 7).trans rfl;have hcz22_8:w20.cell? ⟨gb4,8,none⟩=some (.int .i64 0):=(blk_cell BK4.out 8).trans rfl;have hcz22_9:w20.cell? ⟨gb4,9,none⟩=some (.int .i64 ((rd_T56 x2002_1 x3_1).f7)):=(blk_cell BK4.out 9).trans rfl;have hfz22_0:=blk_frozen BK4.out 0;have hfz22_1:=blk_frozen BK4.out 1;have hfz22_2:=blk_frozen BK4.out 2;have hfz22_3:=blk_frozen BK4.out 3;have hfz22_4:=blk_frozen BK4.out 4;have hfz22_5:=blk_frozen BK4.out 5;have hfz22_6:=blk_frozen BK4.out 6;have hfz22_7:=blk_frozen BK4.out 7;have hfz22_8:=blk_frozen BK4.out 8;have hfz22_9:=blk_frozen BK4.out 9;obtain ⟨Ao23,co23,eo23⟩:=Kd.R_slice HO_2003.out;subst eo23)|((with_reducible refine gate_callee (f:=77) rfl ?_);refine goesL_ (some 23) rfl rfl Try.func77 (by kernel_rfl) rfl #[.agg #[.int .i64 x2000_1,.int .i64 x2001_1,.slice (some ad3) x2002_1.length co11,.slice Ao23 x2003_1.length co23],.agg #[.int .i64 ((rd_T56 x2002_1 x3_1).f0),.int .i64 ((rd_T56 x2002_1 x3_1).f1.f0),.int .i64 ((rd_T56 x2002_1 x3_1).f1.f1),.string ((rd_T56 x2002_1 x3_1).f2),.bool ((rd_T56 x2002_1 x3_1).f3),.bool ((rd_T56 x2002_1 x3_1).f4),.bool ((rd_T56 x2002_1 x3_1).f5),.int .i64 ((rd_T56 x2002_1 x3_1).f6),.int .i64 0,.int .i64 ((rd_T56 x2002_1 x3_1).f7)]] rfl (by (try simp only [List.map_toArray,List.map_cons,List.map_nil]);first|done|rfl|(simp only [List.length_drop,List.length_take];rfl)) ?_;(with_reducible refine (mosaicref18_Table_with.calls k1 x2000_1 x2001_1 _ _ x2002_1 (fun k_=>some k_=(.slice Ao23 x2003_1.length co23:Value).ownBlock) (.slice Ao23 x2003_1.length co23) x2003_1 ((rd_T56 x2002_1 x3_1).f0) ((rd_T56 x2002_1 x3_1).f1.f0) ((rd_T56 x2002_1 x3_1).f1.f1) ((rd_T56 x2002_1 x3_1).f2) ((rd_T56 x2002_1 x3_1).f3) ((rd_T56 x2002_1 x3_1).f4) ((rd_T56 x2002_1 x3_1).f5) ((rd_T56 x2002_1 x3_1).f6) 0 ((rd_T56 x2002_1 x3_1).f7) t5 t6 t7 t10 w0 _ ?side1 ?side2 ?side3 ?side4 A8.out).mono ?_);(case side1=>repeat (first|(with_reducible first|exact HB.out|apply below_alloc|apply pw_below_drewN|apply below_drew1|refine below_set ?_ GE1.out|refine below_set ?_ GE2.out|refine below_set ?_ GE4.out)|exact HB.out));(case side2=>exact Kd.C_kept_own ((Kd.R_apart' HO_2002.out (Kd.R_typed HO_2003.out) (by decide))) (fun k_ hk_ hs_=>(hk_.2) hs_));(case side3=>exact (Kd.R_reads' HO_2002.out).2.1);(case side4=>exact Kd.R_tight rfl HO_2003.out);rintro e w24 ⟨v8,v11,rfl,ho0,ho1,hb,hkp⟩;refine ⟨_,rfl,?_⟩;have n0_:=Aside0.mk (Kd.R_mono (ok':=fun k_=>((P0_2_ k_∨P0_3_ k_)∨w.heap.size≤k_)∧k_≠gb4∧some k_≠(v8:Value).ownBlock) (Kd.R_keptB ((Kd.R_apart' HO_2002.out (Kd.R_typed HO_2003.out) (by decide))) hkp (fun k_ hk_ hs_=>(hk_.2) hs_)) (fun k_ hk_=>⟨hk_.1.1.1,hk_.1.1.2,fun e_=>Or.elim (ho0.1 k_ e_.symm) (fun hs_=>hk_.2.1 hs_) (fun hn_=>Nat.not_le.2 hk_.2.2 hn_)⟩));have n1_:=Aside0.mk (blk_kept (by (with_reducible repeat (first|refine blk_drewN ?_ _|refine blk_drew ?_|refine blk_alloc ?_ _));exact BK1.out) hkp (fun hs_=>(fun e_=>(Kd.R_ne HO_2003.out BK1.out (by decide)) e_) hs_));have n2_:=Aside0.mk (blk_kept (by (with_reducible repeat (first|refine blk_drewN ?_ _|refine blk_drew ?_|refine blk_alloc ?_ _));exact BK2.out) hkp (fun hs_=>(fun e_=>(Kd.R_ne HO_2003.out BK2.out (by decide)) e_) hs_));have n3_:=Aside0.mk (blk_kept (by (with_reducible repeat (first|refine blk_drewN ?_ _|refine blk_drew ?_|refine blk_alloc ?_ _));exact BK4.out) hkp (fun hs_=>(fun e_=>(Kd.R_ne HO_2003.out BK4.out (by decide)) e_) hs_));have n4_:=Aside0.mk (Kd.R_mono (ok':=fun k_=>((P0_2_ k_∨P0_3_ k_)∨w.heap.size≤k_)∧some k_≠(.slice (some ad3) x2002_1.length co11:Value).ownBlock∧k_≠gb4) ho0 (fun k_ hk_=>⟨Or.elim hk_ (fun hs_=>(HO_2003.out.1 k_ (hs_).symm)) (fun hn_=>(.inr (Nat.le_trans (by first|exact HK.out.1|exact (show Kept w _ (fun k_=>P0_2_ k_∨P0_3_ k_) from by repeat (first|(with_reducible first|exact HK.out|apply Kept.alloc|apply Kept.drewN|apply Kept.drew|refine Kept.setCell ?_ (.inr GW1.out) _|refine Kept.setCell ?_ (.inr GW2.out) _|refine Kept.setCell ?_ (.inr GW4.out) _)|exact HK.out)).1) hn_))),Or.elim hk_ (fun hs_=>fun e_=>((((Kd.R_apart' HO_2002.out (Kd.R_typed HO_2003.out) (by decide))).1 k_ e_.symm).2) hs_) (fun hn_=>(Kd.fresh' (Kd.R_lt (by (with_reducible repeat (first|apply Kd.R_alloc|apply Kd.R_drewN|apply Kd.R_drew));exact HO_2002.out)) k_ hn_)),Or.elim hk_ (fun hs_=>fun e_=>(Kd.R_ne HO_2003.out BK4.out (by decide)) (by rw [← e_];exact hs_)) (fun hn_=>(Kd.freshB (g:=gb4) (o:=.cells #[.int .i64 ((rd_T56 x2002_1 x3_1).f0),.int .i64 ((rd_T56 x2002_1 x3_1).f1.f0),.int .i64 ((rd_T56 x2002_1 x3_1).f1.f1),.string ((rd_T56 x2002_1 x3_1).f2),.bool ((rd_T56 x2002_1 x3_1).f3),.bool ((rd_T56 x2002_1 x3_1).f4),.bool ((rd_T56 x2002_1 x3_1).f5),.int .i64 ((rd_T56 x2002_1 x3_1).f6),.int .i64 0,.int .i64 ((rd_T56 x2002_1 x3_1).f7)] 56 (0,0)) (by (with_reducible repeat (first|refine blk_drewN ?_ _|refine blk_drew ?_|refine blk_alloc ?_ _));exact BK4.out) k_ hn_))⟩));have n5_:=Aside0.mk (Kd.R_mono (ok':=fun k_=>((P0_2_ k_∨P0_3_ k_)∨w.heap.size≤k_)) ho1 (fun k_ hk_=>Or.elim hk_ (fun hs_=>(HO_2003.out.1 k_ (hs_).symm)) (fun hn_=>(.inr (Nat.le_trans (by first|exact HK.out.1|exact (show Kept w _ (fun k_=>P0_2_ k_∨P0_3_ k_) from by repeat (first|(with_reducible first|exact HK.out|apply Kept.alloc|apply Kept.drewN|apply Kept.drew|refine Kept.setCell ?_ (.inr GW1.out) _|refine Kept.setCell ?_ (.inr GW2.out) _|refine Kept.setCell ?_ (.inr GW4.out) _)|exact HK.out)).1) hn_)))));have n6_:=Aside0.mk (Kept.then_ (S:=(fun k_=>P0_2_ k_∨P0_3_ k_)) (by repeat (first|(with_reducible first|exact HK.out|apply Kept.alloc|apply Kept.drewN|apply Kept.drew|refine Kept.setCell ?_ (.inr GW1.out) _|refine Kept.setCell ?_ (.inr GW2.out) _|refine Kept.setCell ?_ (.inr GW4.out) _)|exact HK.out)) hkp (fun k_ hs_=>(fun e_=>(HO_2003.out.1 k_ e_.symm)) hs_));have n7_:=Aside0.mk (hb);clear HO_2002;clear BK1;clear BK2;clear BK4;clear HK;clear HB;clear HO_2003;have HO_2002:=n0_;have BK1:=n1_;have BK2:=n2_;have BK4:=n3_;have HO9:=n4_;have HO12:=n5_;have HK:=n6_;have HB:=n7_;clear n0_ n1_ n2_ n3_ n4_ n5_ n6_ n7_;(try clear hb);(try clear hkp);(try clear ho0);(try clear ho1);have hcz25_0:w24.cell? ⟨gb1,0,none⟩=some (.int .i64 x2000_1):=(blk_cell BK1.out 0).trans rfl;have hcz25_1:w24.cell? ⟨gb1,1,none⟩=some (.int .i64 x2001_1):=(blk_cell BK1.out 1).trans rfl;have hcz25_2:w24.cell? ⟨gb1,2,none⟩=some (.slice (some ad3) x2002_1.length co11):=(blk_cell BK1.out 2).trans rfl;have hcz25_3:w24.cell? ⟨gb1,3,none⟩=some (.slice Ao23 x2003_1.length co23):=(blk_cell BK1.out 3).trans rfl;have hfz25_0:=blk_frozen BK1.out 0;have hfz25_1:=blk_frozen BK1.out 1;have hfz25_2:=blk_frozen BK1.out 2;have hfz25_3:=blk_frozen BK1.out 3;obtain ⟨Ao26,co26,eo26⟩:=Kd.R_slice HO9.out;subst eo26;obtain ⟨Ao27,co27,eo27⟩:=Kd.R_slice HO12.out;subst eo27))
     go_roundg k1
     case measure=>have:=HK1.out;omega
     case rel=>exact ⟨(wrap64 (x3_1+1)),(t5),(t6),(t7),(t10),(.slice Ao26 t7.length co26),(.slice Ao27 t10.length co27),(by first|rfl|(simp;done)|(simp [*];done)),H',⟨by have:=HK1.out;omega⟩,⟨by (with_reducible repeat (first|apply Kd.R_alloc|apply Kd.R_drewN|apply Kd.R_drew));exact Kd.R_mono (Kd.R_far (p:=⟨gb1,3,none⟩) (Kd.R_far (p:=⟨gb1,2,none⟩) (Kd.R_far (p:=⟨gb1,1,none⟩) (Kd.R_far (p:=⟨gb1,0,none⟩) (Kd.R_types HO9.out BK1.out (by decide)) (fun _ hk=>hk.2) (.int .i64 t5)) (fun _ hk=>hk.2) (.int .i64 t6)) (fun _ hk=>hk.2) (.slice Ao26 t7.length co26)) (fun _ hk=>hk.2) (.slice Ao27 t10.length co27)) (fun _ hk=>hk.1.1)⟩,⟨by (with_reducible repeat (first|apply Kd.R_alloc|apply Kd.R_drewN|apply Kd.R_drew));exact Kd.R_mono (Kd.R_far (p:=⟨gb1,3,none⟩) (Kd.R_far (p:=⟨gb1,2,none⟩) (Kd.R_far (p:=⟨gb1,1,none⟩) (Kd.R_far (p:=⟨gb1,0,none⟩) (Kd.R_types HO12.out BK1.out (by decide)) (fun _ hk=>hk.2) (.int .i64 t5)) (fun _ hk=>hk.2) (.int .i64 t6)) (fun _ hk=>hk.2) (.slice Ao26 t7.length co26)) (fun _ hk=>hk.2) (.slice Ao27 t10.length co27)) (fun _ hk=>hk.1)⟩,⟨by (with_reducible repeat (first|refine blk_drewN ?_ _|refine blk_drew ?_|refine blk_alloc ?_ _));refine blk_put (cs:=#[.int .i64 t5,.int .i64 t6,.slice Ao26 t7.length co26,.slice Ao23 x2003_1.length co23]) ?_ 3 _ rfl;(with_reducible repeat (first|refine blk_drewN ?_ _|refine blk_drew ?_|refine blk_alloc ?_ _));refine blk_put (cs:=#[.int .i64 t5,.int .i64 t6,.slice (some ad3) x2002_1.length co11,.slice Ao23 x2003_1.length co23]) ?_ 2 _ rfl;(with_reducible repeat (first|refine blk_drewN ?_ _|refine blk_drew ?_|refine blk_alloc ?_ _));refine blk_put (cs:=#[.int .i64 t5,.int .i64 x2001_1,.slice (some ad3) x2002_1.length co11,.slice Ao23 x2003_1.length co23]) ?_ 1 _ rfl;(with_reducible repeat (first|refine blk_drewN ?_ _|refine blk_drew ?_|refine blk_alloc ?_ _));refine blk_put (cs:=#[.int .i64 x2000_1,.int .i64 x2001_1,.slice (some ad3) x2002_1.length co11,.slice Ao23 x2003_1.length co23]) ?_ 0 _ rfl;(with_reducible repeat (first|refine blk_drewN ?_ _|refine blk_drew ?_|refine blk_alloc ?_ _));exact BK1.out⟩,⟨by (with_reducible repeat (first|refine blk_drewN ?_ _|refine blk_drew ?_|refine blk_alloc ?_ _));refine blk_far ?_ NB2_1.out _;(with_reducible repeat (first|refine blk_drewN ?_ _|refine blk_drew ?_|refine blk_alloc ?_ _));refine blk_far ?_ NB2_1.out _;(with_reducible repeat (first|refine blk_drewN ?_ _|refine blk_drew ?_|refine blk_alloc ?_ _));refine blk_far ?_ NB2_1.out _;(with_reducible repeat (first|refine blk_drewN ?_ _|refine blk_drew ?_|refine blk_alloc ?_ _));refine blk_far ?_ NB2_1.out _;(with_reducible repeat (first|refine blk_drewN ?_ _|refine blk_drew ?_|refine blk_alloc ?_ _));exact BK2.out⟩,⟨by repeat (first|(with_reducible first|exact HK.out|apply Kept.alloc|apply Kept.drewN|apply Kept.drew|refine Kept.setCell ?_ (.inr GW1.out) _|refine Kept.setCell ?_ (.inr GW2.out) _|refine Kept.setCell ?_ (.inr GW4.out) _)|exact HK.out)⟩,⟨by repeat (first|(with_reducible first|exact HB.out|apply below_alloc|apply pw_below_drewN|apply below_drew1|refine below_set ?_ GE1.out|refine below_set ?_ GE2.out|refine below_set ?_ GE4.out)|exact HB.out)⟩⟩
    ·
     rw [if_neg c7] at H
     exact absurd H (by simp)
   ·
    rw [if_neg c6] at H
    have c6b0:decide (x3_1 < (x2002_1.length:Int))=false:=decide_eq_false c6
    clear c6
    simp only [Option.some.injEq,Prod.mk.injEq] at H
    obtain ⟨rfl,rfl,rfl,rfl⟩:=H
    have hnb28:=NB1_2.out
    have hnc28:=NB2_1.out
    have hcz29_0:wr.cell? ⟨gb1,0,none⟩=some (.int .i64 x2000_1):=(blk_cell BK1.out 0).trans rfl
    have hcz29_1:wr.cell? ⟨gb1,1,none⟩=some (.int .i64 x2001_1):=(blk_cell BK1.out 1).trans rfl
    have hcz29_2:wr.cell? ⟨gb1,2,none⟩=some (u2002):=(blk_cell BK1.out 2).trans rfl
    have hcz29_3:wr.cell? ⟨gb1,3,none⟩=some (u2003):=(blk_cell BK1.out 3).trans rfl
    have hfz29_0:=blk_frozen BK1.out 0
    have hfz29_1:=blk_frozen BK1.out 1
    have hfz29_2:=blk_frozen BK1.out 2
    have hfz29_3:=blk_frozen BK1.out 3
    obtain ⟨Ao30,co30,eo30⟩:=Kd.R_slice HO_2002.out
    subst eo30
    have hcz31_0:wr.cell? ⟨gb2,0,none⟩=some (.int .i64 0):=(blk_cell BK2.out 0).trans rfl
    have hcz31_1:wr.cell? ⟨gb2,1,none⟩=some (.int .i64 0):=(blk_cell BK2.out 1).trans rfl
    have hcz31_2:wr.cell? ⟨gb2,2,none⟩=some (.slice none 0 0):=(blk_cell BK2.out 2).trans rfl
    have hcz31_3:wr.cell? ⟨gb2,3,none⟩=some (.slice none 0 0):=(blk_cell BK2.out 3).trans rfl
    have hfz31_0:=blk_frozen BK2.out 0
    have hfz31_1:=blk_frozen BK2.out 1
    have hfz31_2:=blk_frozen BK2.out 2
    have hfz31_3:=blk_frozen BK2.out 3
    obtain ⟨Ao32,co32,eo32⟩:=Kd.R_slice HO_2003.out
    subst eo32
    go_wp2
    refine bodyPost_ret (results_cell_row rfl _ _ gb2 45 #[.int .i64 x2000_1,.int .i64 x2001_1,.slice Ao30 x2002_1.length co30,.slice Ao32 x2003_1.length co32] (0,0) _ rfl (by (with_reducible repeat (first|refine blk_drewN ?_ _|refine blk_drew ?_|refine blk_alloc ?_ _));refine blk_put (cs:=#[.int .i64 x2000_1,.int .i64 x2001_1,.slice Ao30 x2002_1.length co30,.slice none 0 0]) ?_ 3 _ rfl;(with_reducible repeat (first|refine blk_drewN ?_ _|refine blk_drew ?_|refine blk_alloc ?_ _));refine blk_put (cs:=#[.int .i64 x2000_1,.int .i64 x2001_1,.slice none 0 0,.slice none 0 0]) ?_ 2 _ rfl;(with_reducible repeat (first|refine blk_drewN ?_ _|refine blk_drew ?_|refine blk_alloc ?_ _));refine blk_put (cs:=#[.int .i64 x2000_1,.int .i64 0,.slice none 0 0,.slice none 0 0]) ?_ 1 _ rfl;(with_reducible repeat (first|refine blk_drewN ?_ _|refine blk_drew ?_|refine blk_alloc ?_ _));refine blk_put (cs:=#[.int .i64 0,.int .i64 0,.slice none 0 0,.slice none 0 0]) ?_ 0 _ rfl;(with_reducible repeat (first|refine blk_drewN ?_ _|refine blk_drew ?_|refine blk_alloc ?_ _));exact BK2.out) Try.underlying45 rfl (by kernel_rfl)) rfl ?_
    exact ⟨_,_,by first|rfl|(simp [errW_none,errW_some] <;> rfl)|(simp [*,errW_none,errW_some] <;> rfl),by (with_reducible repeat (first|apply Kd.R_alloc|apply Kd.R_drewN|apply Kd.R_drew));exact Kd.R_mono (Kd.R_far (p:=⟨gb2,3,none⟩) (Kd.R_far (p:=⟨gb2,2,none⟩) (Kd.R_far (p:=⟨gb2,1,none⟩) (Kd.R_far (p:=⟨gb2,0,none⟩) (Kd.R_types HO_2002.out BK2.out (by decide)) (fun _ hk=>hk.2) (.int .i64 x2000_1)) (fun _ hk=>hk.2) (.int .i64 x2001_1)) (fun _ hk=>hk.2) (.slice Ao30 x2002_1.length co30)) (fun _ hk=>hk.2) (.slice Ao32 x2003_1.length co32)) (fun _ hk=>hk.1),by (with_reducible repeat (first|apply Kd.R_alloc|apply Kd.R_drewN|apply Kd.R_drew));exact Kd.R_mono (Kd.R_far (p:=⟨gb2,3,none⟩) (Kd.R_far (p:=⟨gb2,2,none⟩) (Kd.R_far (p:=⟨gb2,1,none⟩) (Kd.R_far (p:=⟨gb2,0,none⟩) (Kd.R_types HO_2003.out BK2.out (by decide)) (fun _ hk=>hk.2) (.int .i64 x2000_1)) (fun _ hk=>hk.2) (.int .i64 x2001_1)) (fun _ hk=>hk.2) (.slice Ao30 x2002_1.length co30)) (fun _ hk=>hk.2) (.slice Ao32 x2003_1.length co32)) (fun _ hk=>hk.1),by repeat (first|(with_reducible first|exact HB.out|apply below_alloc|apply pw_below_drewN|apply below_drew1|refine below_set ?_ GE1.out|refine below_set ?_ GE2.out)|exact HB.out),by repeat (first|(with_reducible first|exact HK.out|apply Kept.alloc|apply Kept.drewN|apply Kept.drew|refine Kept.setCell ?_ (.inr GW1.out) _|refine Kept.setCell ?_ (.inr GW2.out) _)|exact HK.out)⟩
end Go.Proofs.Ytpejjpecdkbleaa.Print
