/- The proof of the statement PrngBelow of the seat, part 2 of 6: the functions that it reaches, as plain functions, with the walks that show it, and what they come to; the last part ends in the row. No condition beyond the statement's own. -/
import Derived.StillTailTactics
import Derived.Deep.QuietTactic
import Derived.BigQuiet
import Derived.IntWalk
import Derived.Laws.CopyOwn
import Derived.Deep.RegionHeld3
import Derived.Deep.RegionLaw
import Derived.Test.YtelcaepenfjloaaBPrngBelow1
/-! #### Pr85 -/
namespace Go.Proofs.Ytelcaepenfjloaa.Print
open Go.RowKit Go.Proofs.YtelcaepenfjloaaW.PrintWords Go.Proofs.YtelcaepenfjloaaW.PrintLast Go.Proofs.YtelcaepenfjloaaW.PrintMore
attribute [local go_sem] max2_int min2_int max_two min_two max_three min_three max_four min_four
set_option linter.unusedVariables false
set_option linter.unusedSimpArgs false
/-! ### mosaicref01_K: function 85 -/
def mosaicref01_K.f  : Option (List Int):=some (([1116352408,1899447441,3049323471,3921009573,961987163,1508970993,2453635748,2870763221,3624381080,310598401,607225278,1426881987,1925078388,2162078206,2614888103,3248222580,3835390401,4022224774,264347078,604807628,770255983,1249150122,1555081692,1996064986,2554220882,2821834349,2952996808,3210313671,3336571891,3584528711,113926993,338241895,666307205,773529912,1294757372,1396182291,1695183700,1986661051,2177026350,2456956037,2730485921,2820302411,3259730800,3345764771,3516065817,3600352804,4094571909,275423344,430227734,506948616,659060556,883997877,958139571,1322822218,1537002063,1747873779,1955562222,2024104815,2227730452,2361852424,2428436474,2756734187,3204031479,3329325298]:List Int))
set_option maxHeartbeats 8000000 in
set_option maxRecDepth 100000 in
theorem mosaicref01_K.calls  (r:List Int) (w:World) (h:mosaicref01_K.f  = some r) :
  Calls Try.prog 85 #[] w fun e w'=>∃ v0_:Value,e=.returned (v0_)∧Kd.R (Kd.int .u32) 27 w' w.heap.size (fun _=>True) v0_ r∧Below w.heap.size w w':=by
 have HB:=Aside0.mk (Below.refl w.heap.size w)
 have H:(some (([1116352408,1899447441,3049323471,3921009573,961987163,1508970993,2453635748,2870763221,3624381080,310598401,607225278,1426881987,1925078388,2162078206,2614888103,3248222580,3835390401,4022224774,264347078,604807628,770255983,1249150122,1555081692,1996064986,2554220882,2821834349,2952996808,3210313671,3336571891,3584528711,113926993,338241895,666307205,773529912,1294757372,1396182291,1695183700,1986661051,2177026350,2456956037,2730485921,2820302411,3259730800,3345764771,3516065817,3600352804,4094571909,275423344,430227734,506948616,659060556,883997877,958139571,1322822218,1537002063,1747873779,1955562222,2024104815,2227730452,2361852424,2428436474,2756734187,3204031479,3329325298]:List Int)))=some r:=h
 clear h
 obtain ⟨y145,hy145⟩:∃ y_:List Int,y_=(([1116352408,1899447441,3049323471,3921009573,961987163,1508970993,2453635748,2870763221,3624381080,310598401,607225278,1426881987,1925078388,2162078206,2614888103,3248222580,3835390401,4022224774,264347078,604807628,770255983,1249150122,1555081692,1996064986,2554220882,2821834349,2952996808,3210313671,3336571891,3584528711,113926993,338241895,666307205,773529912,1294757372,1396182291,1695183700,1986661051,2177026350,2456956037,2730485921,2820302411,3259730800,3345764771,3516065817,3600352804,4094571909,275423344,430227734,506948616,659060556,883997877,958139571,1322822218,1537002063,1747873779,1955562222,2024104815,2227730452,2361852424,2428436474,2756734187,3204031479,3329325298]:List Int)):=⟨_,rfl⟩
 replace H:(some y145)=some r:=by first|(rw [hy145];with_reducible exact H)|(have H2_:=(Option.bind_some _ _).symm.trans H;rw [hy145];with_reducible exact H2_)|(have H2_:=(Option.bind_some _ _).symm.trans H;with_reducible exact H2_)|with_reducible exact H|(rw [hy145];exact H)|exact H
 have Ny145:=Aside0.mk hy145
 clear hy145
 obtain rfl:=Option.some.inj H
 go_enter Try.func85,Try.ntmps85
 go_wp2_with (first|((with_reducible refine gate_dst (N:=1) rfl ?_);refine Kd.R_lit (Kd.int .u32) _ 27 ?hg (N:=1) ?hd (xs:=([1116352408,1899447441,3049323471,3921009573,961987163,1508970993,2453635748,2870763221,3624381080,310598401,607225278,1426881987,1925078388,2162078206,2614888103,3248222580,3835390401,4022224774,264347078,604807628,770255983,1249150122,1555081692,1996064986,2554220882,2821834349,2952996808,3210313671,3336571891,3584528711,113926993,338241895,666307205,773529912,1294757372,1396182291,1695183700,1986661051,2177026350,2456956037,2730485921,2820302411,3259730800,3345764771,3516065817,3600352804,4094571909,275423344,430227734,506948616,659060556,883997877,958139571,1322822218,1537002063,1747873779,1955562222,2024104815,2227730452,2361852424,2428436474,2756734187,3204031479,3329325298]:List Int)) (inner:=[.int .u32 1116352408,.int .u32 1899447441,.int .u32 3049323471,.int .u32 3921009573,.int .u32 961987163,.int .u32 1508970993,.int .u32 2453635748,.int .u32 2870763221,.int .u32 3624381080,.int .u32 310598401,.int .u32 607225278,.int .u32 1426881987,.int .u32 1925078388,.int .u32 2162078206,.int .u32 2614888103,.int .u32 3248222580,.int .u32 3835390401,.int .u32 4022224774,.int .u32 264347078,.int .u32 604807628,.int .u32 770255983,.int .u32 1249150122,.int .u32 1555081692,.int .u32 1996064986,.int .u32 2554220882,.int .u32 2821834349,.int .u32 2952996808,.int .u32 3210313671,.int .u32 3336571891,.int .u32 3584528711,.int .u32 113926993,.int .u32 338241895,.int .u32 666307205,.int .u32 773529912,.int .u32 1294757372,.int .u32 1396182291,.int .u32 1695183700,.int .u32 1986661051,.int .u32 2177026350,.int .u32 2456956037,.int .u32 2730485921,.int .u32 2820302411,.int .u32 3259730800,.int .u32 3345764771,.int .u32 3516065817,.int .u32 3600352804,.int .u32 4094571909,.int .u32 275423344,.int .u32 430227734,.int .u32 506948616,.int .u32 659060556,.int .u32 883997877,.int .u32 958139571,.int .u32 1322822218,.int .u32 1537002063,.int .u32 1747873779,.int .u32 1955562222,.int .u32 2024104815,.int .u32 2227730452,.int .u32 2361852424,.int .u32 2428436474,.int .u32 2756734187,.int .u32 3204031479,.int .u32 3329325298]) (ok:=fun _=>True) (okp:=fun _=>True) ?hr ?hp (fun _ hk=>hk) trivial (Below.refl _ _) (Nat.le_refl _) (by simp) ?_;(case hd=>rfl);(case hg=>rfl);(case hr=>first|(go_simp;done)|(go_simp;rfl));(case hp=>exact (Reps.one (show Kd.M (Kd.int .u32) _ _ _ 1116352408 [.int .u32 1116352408] from rfl) (Reps.one (show Kd.M (Kd.int .u32) _ _ _ 1899447441 [.int .u32 1899447441] from rfl) (Reps.one (show Kd.M (Kd.int .u32) _ _ _ 3049323471 [.int .u32 3049323471] from rfl) (Reps.one (show Kd.M (Kd.int .u32) _ _ _ 3921009573 [.int .u32 3921009573] from rfl) (Reps.one (show Kd.M (Kd.int .u32) _ _ _ 961987163 [.int .u32 961987163] from rfl) (Reps.one (show Kd.M (Kd.int .u32) _ _ _ 1508970993 [.int .u32 1508970993] from rfl) (Reps.one (show Kd.M (Kd.int .u32) _ _ _ 2453635748 [.int .u32 2453635748] from rfl) (Reps.one (show Kd.M (Kd.int .u32) _ _ _ 2870763221 [.int .u32 2870763221] from rfl) (Reps.one (show Kd.M (Kd.int .u32) _ _ _ 3624381080 [.int .u32 3624381080] from rfl) (Reps.one (show Kd.M (Kd.int .u32) _ _ _ 310598401 [.int .u32 310598401] from rfl) (Reps.one (show Kd.M (Kd.int .u32) _ _ _ 607225278 [.int .u32 607225278] from rfl) (Reps.one (show Kd.M (Kd.int .u32) _ _ _ 1426881987 [.int .u32 1426881987] from rfl) (Reps.one (show Kd.M (Kd.int .u32) _ _ _ 1925078388 [.int .u32 1925078388] from rfl) (Reps.one (show Kd.M (Kd.int .u32) _ _ _ 2162078206 [.int .u32 2162078206] from rfl) (Reps.one (show Kd.M (Kd.int .u32) _ _ _ 2614888103 [.int .u32 2614888103] from rfl) (Reps.one (show Kd.M (Kd.int .u32) _ _ _ 3248222580 [.int .u32 3248222580] from rfl) (Reps.one (show Kd.M (Kd.int .u32) _ _ _ 3835390401 [.int .u32 3835390401] from rfl) (Reps.one (show Kd.M (Kd.int .u32) _ _ _ 4022224774 [.int .u32 4022224774] from rfl) (Reps.one (show Kd.M (Kd.int .u32) _ _ _ 264347078 [.int .u32 264347078] from rfl) (Reps.one (show Kd.M (Kd.int .u32) _ _ _ 604807628 [.int .u32 604807628] from rfl) (Reps.one (show Kd.M (Kd.int .u32) _ _ _ 770255983 [.int .u32 770255983] from rfl) (Reps.one (show Kd.M (Kd.int .u32) _ _ _ 1249150122 [.int .u32 1249150122] from rfl) (Reps.one (show Kd.M (Kd.int .u32) _ _ _ 1555081692 [.int .u32 1555081692] from rfl) (Reps.one (show Kd.M (Kd.int .u32) _ _ _ 1996064986 [.int .u32 1996064986] from rfl) (Reps.one (show Kd.M (Kd.int .u32) _ _ _ 2554220882 [.int .u32 2554220882] from rfl) (Reps.one (show Kd.M (Kd.int .u32) _ _ _ 2821834349 [.int .u32 2821834349] from rfl) (Reps.one (show Kd.M (Kd.int .u32) _ _ _ 2952996808 [.int .u32 2952996808] from rfl) (Reps.one (show Kd.M (Kd.int .u32) _ _ _ 3210313671 [.int .u32 3210313671] from rfl) (Reps.one (show Kd.M (Kd.int .u32) _ _ _ 3336571891 [.int .u32 3336571891] from rfl) (Reps.one (show Kd.M (Kd.int .u32) _ _ _ 3584528711 [.int .u32 3584528711] from rfl) (Reps.one (show Kd.M (Kd.int .u32) _ _ _ 113926993 [.int .u32 113926993] from rfl) (Reps.one (show Kd.M (Kd.int .u32) _ _ _ 338241895 [.int .u32 338241895] from rfl) (Reps.one (show Kd.M (Kd.int .u32) _ _ _ 666307205 [.int .u32 666307205] from rfl) (Reps.one (show Kd.M (Kd.int .u32) _ _ _ 773529912 [.int .u32 773529912] from rfl) (Reps.one (show Kd.M (Kd.int .u32) _ _ _ 1294757372 [.int .u32 1294757372] from rfl) (Reps.one (show Kd.M (Kd.int .u32) _ _ _ 1396182291 [.int .u32 1396182291] from rfl) (Reps.one (show Kd.M (Kd.int .u32) _ _ _ 1695183700 [.int .u32 1695183700] from rfl) (Reps.one (show Kd.M (Kd.int .u32) _ _ _ 1986661051 [.int .u32 1986661051] from rfl) (Reps.one (show Kd.M (Kd.int .u32) _ _ _ 2177026350 [.int .u32 2177026350] from rfl) (Reps.one (show Kd.M (Kd.int .u32) _ _ _ 2456956037 [.int .u32 2456956037] from rfl) (Reps.one (show Kd.M (Kd.int .u32) _ _ _ 2730485921 [.int .u32 2730485921] from rfl) (Reps.one (show Kd.M (Kd.int .u32) _ _ _ 2820302411 [.int .u32 2820302411] from rfl) (Reps.one (show Kd.M (Kd.int .u32) _ _ _ 3259730800 [.int .u32 3259730800] from rfl) (Reps.one (show Kd.M (Kd.int .u32) _ _ _ 3345764771 [.int .u32 3345764771] from rfl) (Reps.one (show Kd.M (Kd.int .u32) _ _ _ 3516065817 [.int .u32 3516065817] from rfl) (Reps.one (show Kd.M (Kd.int .u32) _ _ _ 3600352804 [.int .u32 3600352804] from rfl) (Reps.one (show Kd.M (Kd.int .u32) _ _ _ 4094571909 [.int .u32 4094571909] from rfl) (Reps.one (show Kd.M (Kd.int .u32) _ _ _ 275423344 [.int .u32 275423344] from rfl) (Reps.one (show Kd.M (Kd.int .u32) _ _ _ 430227734 [.int .u32 430227734] from rfl) (Reps.one (show Kd.M (Kd.int .u32) _ _ _ 506948616 [.int .u32 506948616] from rfl) (Reps.one (show Kd.M (Kd.int .u32) _ _ _ 659060556 [.int .u32 659060556] from rfl) (Reps.one (show Kd.M (Kd.int .u32) _ _ _ 883997877 [.int .u32 883997877] from rfl) (Reps.one (show Kd.M (Kd.int .u32) _ _ _ 958139571 [.int .u32 958139571] from rfl) (Reps.one (show Kd.M (Kd.int .u32) _ _ _ 1322822218 [.int .u32 1322822218] from rfl) (Reps.one (show Kd.M (Kd.int .u32) _ _ _ 1537002063 [.int .u32 1537002063] from rfl) (Reps.one (show Kd.M (Kd.int .u32) _ _ _ 1747873779 [.int .u32 1747873779] from rfl) (Reps.one (show Kd.M (Kd.int .u32) _ _ _ 1955562222 [.int .u32 1955562222] from rfl) (Reps.one (show Kd.M (Kd.int .u32) _ _ _ 2024104815 [.int .u32 2024104815] from rfl) (Reps.one (show Kd.M (Kd.int .u32) _ _ _ 2227730452 [.int .u32 2227730452] from rfl) (Reps.one (show Kd.M (Kd.int .u32) _ _ _ 2361852424 [.int .u32 2361852424] from rfl) (Reps.one (show Kd.M (Kd.int .u32) _ _ _ 2428436474 [.int .u32 2428436474] from rfl) (Reps.one (show Kd.M (Kd.int .u32) _ _ _ 2756734187 [.int .u32 2756734187] from rfl) (Reps.one (show Kd.M (Kd.int .u32) _ _ _ 3204031479 [.int .u32 3204031479] from rfl) (Reps.one (show Kd.M (Kd.int .u32) _ _ _ 3329325298 [.int .u32 3329325298] from rfl) (Reps.none _ _))))))))))))))))))))))))))))))))))))))))))))))))))))))))))))))))));intro v146 w1 ho2 hb hg_ hnew_;clear hg_ hnew_;(first|rw [← Ny145.out] at ho2|(simp only [Int.reduceToNat] at ho2;rw [← Ny145.out] at ho2));have n0_:=Aside0.mk (Kd.R_lower ho2 (below_size (by repeat (first|(with_reducible first|exact HB.out|apply below_alloc|apply pw_below_drewN|apply below_drew1)|exact HB.out))));have n1_:=Aside0.mk (below_step (by repeat (first|(with_reducible first|exact HB.out|apply below_alloc|apply pw_below_drewN|apply below_drew1)|exact HB.out)) hb);clear HB;have HO147:=n0_;have HB:=n1_;clear n0_ n1_;clear hb ho2))
 go_ret
 exact ⟨_,by first|rfl|(simp [errW_none,errW_some] <;> rfl)|(simp [*,errW_none,errW_some] <;> rfl),by (with_reducible repeat (first|apply Kd.R_alloc|apply Kd.R_drewN|apply Kd.R_drew));exact HO147.out,by repeat (first|(with_reducible first|exact HB.out|apply below_alloc|apply pw_below_drewN|apply below_drew1)|exact HB.out)⟩
end Go.Proofs.Ytelcaepenfjloaa.Print
/-! #### MaSha -/
/- sha: the words of a block, the state that a block is mixed into (arrays by value). -/
namespace Go.Proofs.Ytelcaepenfjloaa.Print
open Go.RowKit Go.Proofs.YtelcaepenfjloaaW.PrintWords Go.Proofs.YtelcaepenfjloaaW.PrintLast Go.Proofs.YtelcaepenfjloaaW.PrintMore
set_option linter.unusedVariables false
set_option linter.unusedSimpArgs false
/-- Block g holds the words x: an array of type t. -/
structure Blk (w:World) (g t:Nat) (x:List Int):Prop where
 out:w.heap[g]?=some (.cells (x.map (Value.int .u32)).toArray t (0,0))
theorem Blk.at {w:World} {g t:Nat} {x:List Int} (h:Blk w g t x) (i:Nat) (hi:i < x.length):w.cell? ⟨g,i,none⟩=some (.int .u32 (x.getD i 0)):=by
 rw [blk_cell h.out]
 simp [List.getD_eq_getElem?_getD,hi]
theorem Blk.frozen {w:World} {g t:Nat} {x:List Int} (h:Blk w g t x) (i:Nat):w.frozen? ⟨g,i,none⟩=false:=blk_frozen h.out i
theorem Blk.set {w:World} {g t:Nat} {x:List Int} (h:Blk w g t x) (i:Nat) (u:Int):Blk (w.setCell ⟨g,i,none⟩ (.int .u32 u)) g t (x.set i u) :=
 ⟨by rw [blk_set h.out];simp [List.map_set]⟩
theorem Blk.drew {w:World} {g t:Nat} {x:List Int} (h:Blk w g t x) (n:Nat):Blk (w.drewN n) g t x:=⟨h.out⟩
theorem Blk.below {w w1:World} {g t:Nat} {x:List Int} (h:Blk w g t x) (hb:Below w.heap.size w w1):Blk w1 g t x:=⟨blk_below h.out hb⟩
theorem Blk.far {w:World} {g t:Nat} {x:List Int} (h:Blk w g t x) {p:Addr} (hp:g≠p.block) (u:Value):Blk (w.setCell p u) g t x:=⟨blk_far h.out hp u⟩
theorem Blk.alloc {w:World} {g t:Nat} {x:List Int} (h:Blk w g t x) (o:Obj):Blk (w.alloc o) g t x:=⟨blk_alloc h.out o⟩
theorem Blk.new (w:World) (g t:Nat) (x:List Int) (cs:Array Value) (hg:g=w.heap.size) (h:cs=(x.map (Value.int .u32)).toArray):Blk (w.alloc (.cells cs t)) g t x:=⟨by subst hg;subst h;exact heap_alloc_new w _⟩
theorem Blk.row {w:World} {g t:Nat} {x:List Int} (h:Blk w g t x) (y:List Int):Blk (w.setRow g (y.map (Value.int .u32)).toArray) g t y:=⟨by simp [World.setRow,Array.getElem?_modify,h.out]⟩
theorem below_row {w W:World} {g:Nat} (h:Below w.heap.size w W) (hg:w.heap.size≤g) (cs:Array Value):Below w.heap.size w (W.setRow g cs):=below_setRow h hg cs
theorem info64:(Try.prog.info? 144).map (·.size)=some 64:=by kernel_rfl
theorem info8:(Try.prog.info? 28).map (·.size)=some 8:=by kernel_rfl
theorem blk_size64 {x:List Int} (h:x.length=64):(Try.prog.info? 144).map (·.size)=some (x.map (Value.int .u32)).toArray.size:=info64.trans (by simp [h])
theorem blk_size8 {x:List Int} (h:x.length=8):(Try.prog.info? 28).map (·.size)=some (x.map (Value.int .u32)).toArray.size:=info8.trans (by simp [h])
theorem blk_one (x:List Int):(x.map (Value.int .u32)).toArray.all (·.oneCell')=true:=by simp [Value.oneCell']
theorem blk_same {x y:List Int} (h:x.length=y.length):(x.map (Value.int .u32)).toArray.size=(y.map (Value.int .u32)).toArray.size:=by simp [h]
theorem blk_zero64 {x:List Int} (h:x.length=64):((List.replicate 64 (0:Int)).map (Value.int .u32)).toArray.size=(x.map (Value.int .u32)).toArray.size:=blk_same (by simp [h])
def rotrN (x n:Int):Int:=(sha_rotr.f x n).getD 0
def wordN (l:List Int) (i:Int):Int:=(sha_word.f l i).getD 0
/-- The word that is number t. -/
def sdW (l x:List Int) (t:Nat):Int :=
 if t < 16 then wordN l (4 * t) else
  (Go.bits .xor .u32 (Go.bits .xor .u32 (rotrN (x.getD (t - 2) 0) 17) (rotrN (x.getD (t - 2) 0) 19)) (x.getD (t - 2) 0 / 1024)+x.getD (t - 7) 0+Go.bits .xor .u32 (Go.bits .xor .u32 (rotrN (x.getD (t - 15) 0) 7) (rotrN (x.getD (t - 15) 0) 18)) (x.getD (t - 15) 0 / 8)+x.getD (t - 16) 0) % 4294967296
theorem sdW_ge (l x:List Int) (t:Nat) (h:¬ t < 16):sdW l x t=(Go.bits .xor .u32 (Go.bits .xor .u32 (rotrN (x.getD (t - 2) 0) 17) (rotrN (x.getD (t - 2) 0) 19)) (x.getD (t - 2) 0 / 1024)+x.getD (t - 7) 0+Go.bits .xor .u32 (Go.bits .xor .u32 (rotrN (x.getD (t - 15) 0) 7) (rotrN (x.getD (t - 15) 0) 18)) (x.getD (t - 15) 0 / 8)+x.getD (t - 16) 0) % 4294967296:=by rw [sdW,if_neg h]
def schedL (l:List Int):Nat→Nat→List Int→List Int
 | 0,_,x=>x
 | k+1,t,x=>schedL l k (t+1) (x.set t (sdW l x t))
def sched (l:List Int):List Int:=schedL l 64 0 (List.replicate 64 0)
theorem rotr_7 (x:Int):sha_rotr.f x 7=some (rotrN x 7):=by
 unfold rotrN sha_rotr.f bits_RotateLeft32.f
 rw [if_pos (by decide +kernel),if_pos (by decide +kernel)]
 rfl
theorem rotr_18 (x:Int):sha_rotr.f x 18=some (rotrN x 18):=by
 unfold rotrN sha_rotr.f bits_RotateLeft32.f
 rw [if_pos (by decide +kernel),if_pos (by decide +kernel)]
 rfl
theorem rotr_17 (x:Int):sha_rotr.f x 17=some (rotrN x 17):=by
 unfold rotrN sha_rotr.f bits_RotateLeft32.f
 rw [if_pos (by decide +kernel),if_pos (by decide +kernel)]
 rfl
theorem rotr_19 (x:Int):sha_rotr.f x 19=some (rotrN x 19):=by
 unfold rotrN sha_rotr.f bits_RotateLeft32.f
 rw [if_pos (by decide +kernel),if_pos (by decide +kernel)]
 rfl
theorem rotr_6 (x:Int):sha_rotr.f x 6=some (rotrN x 6):=by
 unfold rotrN sha_rotr.f bits_RotateLeft32.f
 rw [if_pos (by decide +kernel),if_pos (by decide +kernel)]
 rfl
theorem rotr_11 (x:Int):sha_rotr.f x 11=some (rotrN x 11):=by
 unfold rotrN sha_rotr.f bits_RotateLeft32.f
 rw [if_pos (by decide +kernel),if_pos (by decide +kernel)]
 rfl
theorem rotr_25 (x:Int):sha_rotr.f x 25=some (rotrN x 25):=by
 unfold rotrN sha_rotr.f bits_RotateLeft32.f
 rw [if_pos (by decide +kernel),if_pos (by decide +kernel)]
 rfl
theorem rotr_2 (x:Int):sha_rotr.f x 2=some (rotrN x 2):=by
 unfold rotrN sha_rotr.f bits_RotateLeft32.f
 rw [if_pos (by decide +kernel),if_pos (by decide +kernel)]
 rfl
theorem rotr_13 (x:Int):sha_rotr.f x 13=some (rotrN x 13):=by
 unfold rotrN sha_rotr.f bits_RotateLeft32.f
 rw [if_pos (by decide +kernel),if_pos (by decide +kernel)]
 rfl
theorem rotr_22 (x:Int):sha_rotr.f x 22=some (rotrN x 22):=by
 unfold rotrN sha_rotr.f bits_RotateLeft32.f
 rw [if_pos (by decide +kernel),if_pos (by decide +kernel)]
 rfl
theorem word_some (l:List Int) (i:Int) (h0:0≤i) (h1:i+3 < l.length) (hl:l.length≤9223372036854775807):sha_word.f l i=some (wordN l i):=by
 have e1:wrap64 (i+1)=i+1:=by unfold wrap64;omega
 have e2:wrap64 (i+2)=i+2:=by unfold wrap64;omega
 have e3:wrap64 (i+3)=i+3:=by unfold wrap64;omega
 unfold wordN sha_word.f
 rw [e1,e2,e3,if_pos (by omega),if_pos (by omega),if_pos (by omega),if_pos (by omega),if_pos (by omega),if_pos (by omega),if_pos (by omega),if_pos (by omega)]
 rfl
set_option maxHeartbeats 4000000 in
set_option maxRecDepth 100000 in
theorem schedule_calls (A:Option Addr) (c:Nat) (l:List Int) (w:World) (hr:Kd.C (Kd.int .u8) w A l.length l) (hc:l.length≤c) (h64:64≤l.length) (hl:l.length≤9223372036854775807) :
  Calls Try.prog 113 #[.slice A l.length c] w fun e w'=>e=.returned (.agg ((sched l).map (Value.int .u32)).toArray)∧Below w.heap.size w w':=by
 have HR:=Aside0.mk hr
 have HC:=Aside0.mk hc
 have HL:=Aside0.mk h64
 have HM:=Aside0.mk hl
 clear hr hc h64 hl
 obtain ⟨res,hres⟩:∃ res,res=sched l:=⟨_,rfl⟩
 rw [← hres]
 have HRES:=Aside0.mk hres
 clear hres
 go_enter Try.func113,Try.ntmps113
 go_wp2
 go_loopg [4,5,6,7,8,9] 64 (fun gg _ _ _ _ _ s9 wr=>∃ (t:Nat) (x:List Int),t+gg=64∧s9=.int .i64 (t:Int)∧Aside0 (x.length=64)∧Aside0 (res=schedL l gg t x)∧Aside0 (Blk wr (w.heap.size+1) 144 x)∧Aside0 (Blk wr w.heap.size 144 (List.replicate 64 0))∧Aside0 (Below w.heap.size w wr))
 case atStart=>exact ⟨0,_,rfl,rfl,⟨List.length_replicate⟩,⟨HRES.out⟩,⟨Blk.new _ _ _ _ _ (by simp) rfl⟩,⟨by refine Blk.alloc (Blk.new _ _ _ _ _ ?_ ?_) _ <;> rfl⟩,⟨below_alloc (below_alloc (Below.refl _ _) _) _⟩⟩
 case round =>
  clear HRES
  obtain ⟨t,x,ht,rfl,HX,HA,HG,HG0,HB⟩:=hrel
  by_cases hlt:t < 64
  ·
   obtain ⟨gg,rfl⟩:∃ m,gk=m+1:=⟨gk - 1,by omega⟩
   have hltz:(t:Int) < 64:=by omega
   by_cases h16:t < 16
   ·
    have h16z:(t:Int) < 16:=by omega
    have e4:wrap64 (4 * (t:Int))=4 * t:=by unfold wrap64;omega
    have hw:=word_some l (4 * t) (by omega) (by have:=HL.out;omega) HM.out
    have HW:=Aside0.mk hw
    have hf:=HG.out.frozen t
    have hcell:=HG.out.at t (by have:=HX.out;omega)
    clear hw
    go_wp2_with (go_at_call 123;refine (sha_word.calls A c l (4 * t) _ _ (Kd.C_below HR.out HB.out) HC.out HW.out).mono ?_;rintro e w' ⟨rfl,⟨⟨nd,rfl⟩⟩⟩)
    go_roundg gg
    case measure=>omega
    case rel=>exact ⟨t+1,x.set t (sdW l x t),by omega,by go_num,⟨by rw [List.length_set];exact HX.out⟩,⟨HA.out⟩,⟨by have:=(HG.out.drew nd).set t (wordN l (4 * t));rw [sdW,if_pos h16];exact this⟩,⟨(HG0.out.drew nd).far (by simp) _⟩,⟨(pw_below_drewN HB.out nd).setCell (by simp) _⟩⟩
   ·
    have h16z:¬ (t:Int) < 16:=by omega
    have hx:=HX.out
    have l15:=HG.out.at (t - 15) (by omega)
    have l2:=HG.out.at (t - 2) (by omega)
    have l7:=HG.out.at (t - 7) (by omega)
    have l16:=HG.out.at (t - 16) (by omega)
    have hsd:=sdW_ge l x t h16
    generalize x.getD (t - 15) 0=a15 at l15 hsd
    generalize x.getD (t - 2) 0=a2 at l2 hsd
    generalize x.getD (t - 7) 0=a7 at l7 hsd
    generalize x.getD (t - 16) 0=a16 at l16 hsd
    have R7:=Aside0.mk (rotr_7 a15)
    have R18:=Aside0.mk (rotr_18 a15)
    have R17:=Aside0.mk (rotr_17 a2)
    have R19:=Aside0.mk (rotr_19 a2)
    generalize rotrN a15 7=r7 at R7 hsd
    generalize rotrN a15 18=r18 at R18 hsd
    generalize rotrN a2 17=r17 at R17 hsd
    generalize rotrN a2 19=r19 at R19 hsd
    have HSD:=Aside0.mk hsd
    clear hsd
    have w15:IntKind.i64.wrap ((t:Int) - 15)=t - 15:=IntWalk.i64_in _ (by omega)
    have w2:IntKind.i64.wrap ((t:Int) - 2)=t - 2:=IntWalk.i64_in _ (by omega)
    have p15:0≤(t:Int) - 15:=by omega
    have p2:0≤(t:Int) - 2:=by omega
    have q15:(t:Int) - 15 < 64:=by omega
    have q2:(t:Int) - 2 < 64:=by omega
    have n15:((t:Int) - 15).toNat=t - 15:=by omega
    have n2:((t:Int) - 2).toNat=t - 2:=by omega
    go_wp2
    go_quiet (fail)
    go_wp2_with (go_at_call 115;first|(with_reducible refine (sha_rotr.calls _ _ _ _ R7.out).mono ?_;rintro e w1 ⟨rfl,⟨⟨nd1,rfl⟩⟩⟩)|(with_reducible refine (sha_rotr.calls _ _ _ _ R18.out).mono ?_;rintro e w2 ⟨rfl,⟨⟨nd2,rfl⟩⟩⟩)|(with_reducible refine (sha_rotr.calls _ _ _ _ R17.out).mono ?_;rintro e w3 ⟨rfl,⟨⟨nd3,rfl⟩⟩⟩)|(with_reducible refine (sha_rotr.calls _ _ _ _ R19.out).mono ?_;rintro e w4 ⟨rfl,⟨⟨nd4,rfl⟩⟩⟩))
    clear l15 l2 w15 w2 p15 p2 q15 q2 n15 n2
    generalize nq+nd1+nd2+nd3+nd4=nn
    have w7:IntKind.i64.wrap ((t:Int) - 7)=t - 7:=IntWalk.i64_in _ (by omega)
    have w16:IntKind.i64.wrap ((t:Int) - 16)=t - 16:=IntWalk.i64_in _ (by omega)
    have p7:7≤(t:Int):=by omega
    have p16:16≤(t:Int):=by omega
    have q7:(t:Int) - 7 < 64:=by omega
    have q16:(t:Int) - 16 < 64:=by omega
    have n7:((t:Int) - 7).toNat=t - 7:=by omega
    have n16:((t:Int) - 16).toNat=t - 16:=by omega
    have p0:0≤(t:Int):=by omega
    refine wp_region_still_tail 15 (by kernel_rfl) (by kernel_rfl) ?_
    change wpStill _ _ (wr.drewN nn).drew (fun a'=>wpList _ _ _ _ a' (wr.drewN nn).drew) _ _
    have hf:(wr.drewN nn).drew.frozen? ⟨w.heap.size+1,t,none⟩=false:=HG.out.frozen t
    have l0:(wr.drewN nn).drew.cell? ⟨w.heap.size+1,t,none⟩=_:=HG.out.at t (by omega)
    have k7:(wr.drewN nn).drew.cell? ⟨w.heap.size+1,t - 7,none⟩=_:=l7
    have k16:(wr.drewN nn).drew.cell? ⟨w.heap.size+1,t - 16,none⟩=_:=l16
    have G6:=Aside0.mk ((HG.out.drew nn).drew 1)
    have G06:=Aside0.mk ((HG0.out.drew nn).drew 1)
    have B6:=Aside0.mk (pw_below_drewN (pw_below_drewN HB.out nn) 1)
    clear l7 l16 HG HG0 HB
    generalize hw6:(wr.drewN nn).drew=w6 at hf l0 k7 k16 ⊢
    simp only [List.take_succ_cons,List.take_zero,List.drop_succ_cons,List.drop_zero]
    repeat still_step
    refine wpStill_nil ?_
    go_wp2
    rw [← HSD.out]
    go_roundg gg
    case measure=>omega
    case rel=>exact ⟨t+1,x.set t (sdW l x t),by omega,by go_num,⟨by rw [List.length_set];exact hx⟩,⟨HA.out⟩,⟨hw6 ▸ G6.out.set t _⟩,⟨hw6 ▸ G06.out.far (by simp) _⟩,⟨hw6 ▸ B6.out.setCell (by simp) _⟩⟩
  ·
   have hltz:¬ (t:Int) < 64:=by omega
   have h0:gk=0:=by omega
   subst h0
   have hs:=blk_size64 HX.out
   have hone:=blk_one x
   have hz:=blk_zero64 HX.out
   go_wp2_with (first|(refine wpList_load_row rfl 144 (.tmp 3) rfl (w.heap.size+1) rfl 144 _ (0,0) _ HG.out.out Try.underlying144 rfl hs ?_)|(refine wpList_store_row rfl 144 (.tmp 2) (.tmp 60) rfl w.heap.size _ rfl rfl 144 _ HG0.out.out hs hz hone ?_))
   have hres:res=x:=HA.out
   subst hres
   refine bodyPost_ret (results_cell_row rfl _ _ w.heap.size 144 _ (0,0) _ rfl (HG0.out.row _).out Try.underlying144 rfl hs) rfl ?_
   exact ⟨rfl,below_row HB.out (Nat.le_refl _) _⟩
def constK:List Int:=(mosaicref01_K.f).getD []
theorem constK_len:constK.length=64:=rfl
set_option maxHeartbeats 4000000 in
set_option maxRecDepth 100000 in
theorem constants_calls (w:World):Calls Try.prog 114 #[] w fun e w'=>e=.returned (.agg (constK.map (Value.int .u32)).toArray)∧Below w.heap.size w w':=by
 have hs:=blk_size64 constK_len
 have hone:=blk_one constK
 have hz:=blk_zero64 constK_len
 have hc:(constK.map (Value.int .u32)).toArray=#[.int .u32 1116352408,.int .u32 1899447441,.int .u32 3049323471,.int .u32 3921009573,.int .u32 961987163,.int .u32 1508970993,.int .u32 2453635748,.int .u32 2870763221,.int .u32 3624381080,.int .u32 310598401,.int .u32 607225278,.int .u32 1426881987,.int .u32 1925078388,.int .u32 2162078206,.int .u32 2614888103,.int .u32 3248222580,.int .u32 3835390401,.int .u32 4022224774,.int .u32 264347078,.int .u32 604807628,.int .u32 770255983,.int .u32 1249150122,.int .u32 1555081692,.int .u32 1996064986,.int .u32 2554220882,.int .u32 2821834349,.int .u32 2952996808,.int .u32 3210313671,.int .u32 3336571891,.int .u32 3584528711,.int .u32 113926993,.int .u32 338241895,.int .u32 666307205,.int .u32 773529912,.int .u32 1294757372,.int .u32 1396182291,.int .u32 1695183700,.int .u32 1986661051,.int .u32 2177026350,.int .u32 2456956037,.int .u32 2730485921,.int .u32 2820302411,.int .u32 3259730800,.int .u32 3345764771,.int .u32 3516065817,.int .u32 3600352804,.int .u32 4094571909,.int .u32 275423344,.int .u32 430227734,.int .u32 506948616,.int .u32 659060556,.int .u32 883997877,.int .u32 958139571,.int .u32 1322822218,.int .u32 1537002063,.int .u32 1747873779,.int .u32 1955562222,.int .u32 2024104815,.int .u32 2227730452,.int .u32 2361852424,.int .u32 2428436474,.int .u32 2756734187,.int .u32 3204031479,.int .u32 3329325298]:=rfl
 have hb:=Blk.new w w.heap.size 144 (List.replicate 64 0) _ rfl rfl
 go_enter Try.func114,Try.ntmps114
 go_wp2_with (refine wpList_store_row rfl 144 (.tmp 0) (.tmp 1) rfl w.heap.size (constK.map (Value.int .u32)).toArray rfl ?hy 144 _ hb.out hs hz hone ?_;(case hy=>rw [hc];rfl))
 refine bodyPost_ret (results_cell_row rfl _ _ w.heap.size 144 _ (0,0) _ rfl (hb.row constK).out Try.underlying144 rfl hs) rfl ?_
 exact ⟨rfl,below_row (below_alloc (Below.refl _ _) _) (Nat.le_refl _) _⟩
def startS:List Int:=[1779033703,3144134277,1013904242,2773480762,1359893119,2600822924,528734635,1541459225]
theorem start_calls (w:World):Calls Try.prog 34 #[] w fun e w'=>e=.returned (.agg (startS.map (Value.int .u32)).toArray)∧Below w.heap.size w w':=by
 have hs:=blk_size8 (x:=startS) rfl
 have hone:=blk_one startS
 have hz:=blk_same (x:=List.replicate 8 0) (y:=startS) rfl
 have hb:=Blk.new w w.heap.size 28 (List.replicate 8 0) _ rfl rfl
 go_enter Try.func34,Try.ntmps34
 go_wp2_with (refine wpList_store_row rfl 28 (.tmp 0) (.tmp 1) rfl w.heap.size (startS.map (Value.int .u32)).toArray rfl rfl 28 _ hb.out hs hz hone ?_)
 refine bodyPost_ret (results_cell_row rfl _ _ w.heap.size 28 _ (0,0) _ rfl (hb.row startS).out Try.underlying28 rfl hs) rfl ?_
 exact ⟨rfl,below_row (below_alloc (Below.refl _ _) _) (Nat.le_refl _) _⟩
end Go.Proofs.Ytelcaepenfjloaa.Print
/-! #### MaShaMix -/
/- sha.mix: a block mixed into a state. -/
namespace Go.Proofs.Ytelcaepenfjloaa.Print
open Go.RowKit Go.Proofs.YtelcaepenfjloaaW.PrintWords Go.Proofs.YtelcaepenfjloaaW.PrintLast Go.Proofs.YtelcaepenfjloaaW.PrintMore
set_option linter.unusedVariables false
set_option linter.unusedSimpArgs false
/-- One round. -/
def s1N (e:Int):Int:=Go.bits .xor .u32 (Go.bits .xor .u32 (rotrN e 6) (rotrN e 11)) (rotrN e 25)
def s0N (a:Int):Int:=Go.bits .xor .u32 (Go.bits .xor .u32 (rotrN a 2) (rotrN a 13)) (rotrN a 22)
def chN (e f g:Int):Int:=Go.bits .xor .u32 (Go.bits .and .u32 e f) (Go.bits .and .u32 (Go.bits .xor .u32 IntKind.u32.max e) g)
def majN (a b c:Int):Int:=Go.bits .xor .u32 (Go.bits .xor .u32 (Go.bits .and .u32 a b) (Go.bits .and .u32 a c)) (Go.bits .and .u32 b c)
def mixStep (k w:List Int):List Int→Nat→List Int
 | [a,b,c,d,e,f,g,h],t=>[(h+s1N e+chN e f g+k.getD t 0+w.getD t 0+(s0N a+majN a b c)) % 4294967296,a,b,c,(d+(h+s1N e+chN e f g+k.getD t 0+w.getD t 0)) % 4294967296,e,f,g]
 | s,_=>s
def mixL (k w:List Int):Nat→Nat→List Int→List Int
 | 0,_,s=>s
 | n+1,t,s=>mixL k w n (t+1) (mixStep k w s t)
/-- The state is added, word by word. -/
def mixAdd (st:List Int):Nat→Nat→List Int→List Int
 | 0,_,s=>s
 | n+1,i,s=>mixAdd st n (i+1) (s.set i ((s.getD i 0+st.getD i 0) % 4294967296))
def mixB (st l:List Int):List Int:=mixAdd st 8 0 (mixL constK (sched l) 64 0 st)
theorem schedL_len (l:List Int):∀ (k t:Nat) (x:List Int),(schedL l k t x).length=x.length
 | 0,_,_=>rfl
 | k+1,t,x=>by rw [schedL,schedL_len l k,List.length_set]
theorem sched_len (l:List Int):(sched l).length=64:=by rw [sched,schedL_len,List.length_replicate]
theorem gen_world {G:World→Prop} {w:World} (p:World→Prop) (h:p w) (k:∀ W,p W→G W):G w:=k w h
theorem Blk.rowfar {w:World} {g t:Nat} {x:List Int} (h:Blk w g t x) {g':Nat} (hg:g≠g') (cs:Array Value):Blk (w.setRow g' cs) g t x:=⟨by simp [World.setRow,Array.getElem?_modify,h.out,Ne.symm hg]⟩
theorem list8 {α:Type} (l:List α) (h:l.length=8):∃ a b c d e f g i,l=[a,b,c,d,e,f,g,i]:=by
 match l,h with
 | [a,b,c,d,e,f,g,i],_=>exact ⟨a,b,c,d,e,f,g,i,rfl⟩
/-- What lies in memory while a block is mixed: the state that came, the result. -/
structure MixJ (w W:World) (s:List Int):Prop where
 bel:Below w.heap.size w W
 g2:Blk W w.heap.size 28 s
 g4:Blk W (w.heap.size+1) 28 (List.replicate 8 0)
 lt:w.heap.size+2≤W.heap.size
theorem MixJ.below {w W W':World} {s:List Int} (h:MixJ w W s) (hb:Below W.heap.size W W'):MixJ w W' s :=
 ⟨below_then h.bel h.bel.size hb,h.g2.below hb,h.g4.below hb,Nat.le_trans h.lt hb.size⟩
theorem MixJ.row {w W:World} {s:List Int} (h:MixJ w W s) {g:Nat} (hg:w.heap.size+2≤g) (cs:Array Value):MixJ w (W.setRow g cs) s :=
 ⟨below_row h.bel (by omega) cs,h.g2.rowfar (by omega) cs,h.g4.rowfar (by omega) cs,by simpa [World.setRow] using h.lt⟩
theorem MixJ.cell {w W:World} {s:List Int} (h:MixJ w W s) {g:Nat} (hg:w.heap.size+2≤g) (i:Nat) (u:Value):MixJ w (W.setCell ⟨g,i,none⟩ u) s :=
 ⟨h.bel.setCell (by show w.heap.size≤g;omega) u,h.g2.far (by show w.heap.size≠g;omega) u,h.g4.far (by show w.heap.size+1≠g;omega) u,by simpa [World.setCell] using h.lt⟩
theorem MixJ.alloc {w W:World} {s:List Int} (h:MixJ w W s) (o:Obj):MixJ w (W.alloc o) s:=h.below (below_alloc (Below.refl _ _) o)
/-- .. and the words and the constants. -/
structure MixI (w W:World) (g5:Nat) (s l k:List Int):Prop where
 j:MixJ w W s
 b5:Blk W g5 144 l
 b6:Blk W (g5+1) 144 k
 ge:w.heap.size+2≤g5
 lt:g5+2≤W.heap.size
theorem MixI.below {w W W':World} {g5:Nat} {s l k:List Int} (h:MixI w W g5 s l k) (hb:Below W.heap.size W W'):MixI w W' g5 s l k :=
 ⟨h.j.below hb,h.b5.below hb,h.b6.below hb,h.ge,Nat.le_trans h.lt hb.size⟩
theorem MixI.drew {w W:World} {g5:Nat} {s l k:List Int} (h:MixI w W g5 s l k) (n:Nat):MixI w (W.drewN n) g5 s l k:=h.below (Drawn0.below ⟨n,rfl⟩)
theorem MixI.alloc {w W:World} {g5:Nat} {s l k:List Int} (h:MixI w W g5 s l k) (o:Obj):MixI w (W.alloc o) g5 s l k:=h.below (below_alloc (Below.refl _ _) o)
theorem MixI.row {w W:World} {g5:Nat} {s l k:List Int} (h:MixI w W g5 s l k) {g:Nat} (hg:g5+2≤g) (cs:Array Value):MixI w (W.setRow g cs) g5 s l k :=
 ⟨h.j.row (by have:=h.ge;omega) cs,h.b5.rowfar (by omega) cs,h.b6.rowfar (by omega) cs,h.ge,by simpa [World.setRow] using h.lt⟩
theorem MixI.cell {w W:World} {g5:Nat} {s l k:List Int} (h:MixI w W g5 s l k) {g:Nat} (hg:g5+2≤g) (i:Nat) (u:Value):MixI w (W.setCell ⟨g,i,none⟩ u) g5 s l k :=
 ⟨h.j.cell (by have:=h.ge;omega) i u,h.b5.far (by show g5≠g;omega) u,h.b6.far (by show g5+1≠g;omega) u,h.ge,by simpa [World.setCell] using h.lt⟩
theorem MixI.new {w W:World} {s l k:List Int} (h:MixJ w W s) (o o':Obj) (ho:o=.cells ((List.replicate 64 (0:Int)).map (Value.int .u32)).toArray 144) (ho':o'=o) :
  MixI w ((((W.alloc o).alloc o').setRow W.heap.size (l.map (Value.int .u32)).toArray).setRow (W.heap.size+1) (k.map (Value.int .u32)).toArray) W.heap.size s l k:=by
 subst ho'
 subst ho
 have b5:=((Blk.new W W.heap.size 144 (List.replicate 64 0) _ rfl rfl).alloc (.cells ((List.replicate 64 (0:Int)).map (Value.int .u32)).toArray 144)).row l
 have b6:=(Blk.new (W.alloc (.cells ((List.replicate 64 (0:Int)).map (Value.int .u32)).toArray 144)) (W.heap.size+1) 144 (List.replicate 64 0) _ (by simp) rfl).rowfar (g':=W.heap.size) (by omega) (l.map (Value.int .u32)).toArray
 exact ⟨(((h.alloc _).alloc _).row h.lt _).row (by have:=h.lt;omega) _,b5.rowfar (by omega) _,b6.row k,h.lt,by simp [World.setRow]⟩
set_option maxHeartbeats 400000 in
set_option maxRecDepth 100000 in
theorem mix_calls (s:List Int) (A:Option Addr) (c:Nat) (l:List Int) (w:World) (h8:s.length=8) (hr:Kd.C (Kd.int .u8) w A l.length l) (hc:l.length≤c) (h64:64≤l.length) (hl:l.length≤9223372036854775807) :
  Calls Try.prog 83 #[.agg (s.map (Value.int .u32)).toArray,.slice A l.length c] w fun e w'=>e=.returned (.agg ((mixB s l).map (Value.int .u32)).toArray)∧Below w.heap.size w w':=by
 have HR:=Aside0.mk hr
 have HC:=Aside0.mk hc
 have HL:=Aside0.mk h64
 have HM:=Aside0.mk hl
 have HS:=Aside0.mk h8
 clear hr hc h64 hl h8
 have hm:mixB s l=mixAdd s 8 0 (mixL constK (sched l) 64 0 s):=rfl
 have hsc:=fun (W:World) (h:Kd.C (Kd.int .u8) W A l.length l)=>schedule_calls A c l W h HC.out HL.out HM.out
 have hco:=constants_calls
 have hs5:=blk_size64 (sched_len l)
 have ho5:=blk_one (sched l)
 have hz5:=blk_zero64 (sched_len l)
 have hs6:=blk_size64 constK_len
 have ho6:=blk_one constK
 have hz6:=blk_zero64 constK_len
 have hs8:=blk_size8 HS.out
 have ho8:=blk_one s
 have hz8:((List.replicate 8 (0:Int)).map (Value.int .u32)).toArray.size=(s.map (Value.int .u32)).toArray.size:=blk_same (by simp [HS.out])
 have hlk:=constK_len
 have hlw:=sched_len l
 generalize constK=kk at hm hco hs6 ho6 hz6 hlk
 generalize sched l=ww at hm hsc hs5 ho5 hz5 hlw
 generalize mixB s l=res at hm ⊢
 have HRES:=Aside0.mk hm
 have HSC:=Aside0.mk hsc
 have HCO:=Aside0.mk hco
 clear hm hsc hco
 have hj:MixJ w ((w.alloc (.cells (s.map (Value.int .u32)).toArray 28)).alloc (.cells #[.int .u32 0,.int .u32 0,.int .u32 0,.int .u32 0,.int .u32 0,.int .u32 0,.int .u32 0,.int .u32 0] 28)) s:=⟨below_alloc (below_alloc (Below.refl _ _) _) _,Blk.alloc (Blk.new _ _ _ _ _ rfl rfl) _,Blk.new _ _ _ _ _ (by simp) rfl,by simp⟩
 have HJ:=Aside0.mk hj
 have HR2:=Aside0.mk (Kd.C_below HR.out hj.bel)
 clear hj
 go_enter Try.func83,Try.ntmps83
 go_wp2_with (first
  | (go_at_call 113;refine (HSC.out _ HR2.out).mono ?_;rintro e w1 ⟨rfl,hb1⟩)
  | (go_at_call 114;refine (HCO.out _).mono ?_;rintro e w2 ⟨rfl,hb2⟩)
  | (refine wpList_store_row rfl 144 (.tmp 5) (.tmp 17) rfl w2.heap.size (ww.map (Value.int .u32)).toArray rfl rfl 144 _ ?hg5 hs5 hz5 ho5 ?_;(case hg5=>exact (Blk.alloc (Blk.new w2 _ _ (List.replicate 64 0) _ rfl rfl) _).out))
  | (refine wpList_store_row rfl 144 (.tmp 6) (.tmp 18) rfl (w2.heap.size+1) (kk.map (Value.int .u32)).toArray rfl rfl 144 _ ?hg6 hs6 hz6 ho6 ?_;(case hg6=>exact (Blk.rowfar (Blk.new (w2.alloc _) _ _ (List.replicate 64 0) _ (by simp) rfl) (by omega) _).out);refine gen_world (fun W=>MixI w W w2.heap.size s ww kk) (MixI.new ((HJ.out.below hb1).below hb2) _ _ rfl rfl) ?_;clear HJ hb1 hb2;intro W3 hm3;have HM3:=Aside0.mk hm3;clear hm3)
  | (refine wpList_load_row rfl 28 (.tmp 2) rfl w.heap.size rfl 28 _ (0,0) _ HM3.out.j.g2.out Try.underlying28 rfl hs8 ?_)
  | (refine wpList_store_row rfl 28 (.tmp 7) (.tmp 19) rfl W3.heap.size (s.map (Value.int .u32)).toArray rfl rfl 28 _ ?hg7 hs8 hz8 ho8 ?_;(case hg7=>exact (Blk.new W3 _ _ (List.replicate 8 0) _ rfl rfl).out);refine gen_world (fun W=>MixI w W w2.heap.size s ww kk∧Blk W W3.heap.size 28 s) ⟨(HM3.out.alloc _).row HM3.out.lt _,(Blk.new _ _ _ (List.replicate 8 0) _ rfl rfl).row s⟩ ?_;have hlt7:=HM3.out.lt;have hge7:=HM3.out.ge;clear HM3;rintro W4 ⟨hm4,hb7⟩;have HM4:=Aside0.mk hm4;have HB7:=Aside0.mk hb7;clear hm4 hb7))
 go_loopg [8,9,10,11,12,13,14,20] 64 (fun gg _ _ _ _ _ _ _ s20 wr=>∃ (t:Nat) (x0 x1 x2 x3 x4 x5 x6 x7:Int),t+gg=64∧s20=.int .i64 (t:Int)∧Aside0 (res=mixAdd s 8 0 (mixL kk ww gg t [x0,x1,x2,x3,x4,x5,x6,x7]))∧Aside0 (Blk wr W3.heap.size 28 [x0,x1,x2,x3,x4,x5,x6,x7])∧Aside0 (MixI w wr w2.heap.size s ww kk))
 case atStart =>
  obtain ⟨x0,x1,x2,x3,x4,x5,x6,x7,rfl⟩:=list8 s HS.out
  exact ⟨0,x0,x1,x2,x3,x4,x5,x6,x7,rfl,rfl,HRES,HB7,HM4⟩
 case round =>
  clear HRES HB7 HM4
  obtain ⟨t,x0,x1,x2,x3,x4,x5,x6,x7,ht,rfl,HA,HB7,HM4⟩:=hrel
  by_cases hlt:t < 64
  ·
   obtain ⟨gg,rfl⟩:∃ m,gk=m+1:=⟨gk - 1,by omega⟩
   have hltz:(t:Int) < 64:=by omega
   have p0:0≤(t:Int):=by omega
   have c0:wr.cell? ⟨W3.heap.size,0,none⟩=some (.int .u32 x0):=HB7.out.at 0 (by simp)
   have c1:wr.cell? ⟨W3.heap.size,1,none⟩=some (.int .u32 x1):=HB7.out.at 1 (by simp)
   have c2:wr.cell? ⟨W3.heap.size,2,none⟩=some (.int .u32 x2):=HB7.out.at 2 (by simp)
   have c3:wr.cell? ⟨W3.heap.size,3,none⟩=some (.int .u32 x3):=HB7.out.at 3 (by simp)
   have c4:wr.cell? ⟨W3.heap.size,4,none⟩=some (.int .u32 x4):=HB7.out.at 4 (by simp)
   have c5:wr.cell? ⟨W3.heap.size,5,none⟩=some (.int .u32 x5):=HB7.out.at 5 (by simp)
   have c6:wr.cell? ⟨W3.heap.size,6,none⟩=some (.int .u32 x6):=HB7.out.at 6 (by simp)
   have c7:wr.cell? ⟨W3.heap.size,7,none⟩=some (.int .u32 x7):=HB7.out.at 7 (by simp)
   have ck:=HM4.out.b6.at t (by omega)
   have cw:=HM4.out.b5.at t (by omega)
   generalize hkt:kk.getD t 0=kt at ck
   generalize hwt:ww.getD t 0=wt at cw
   have R6:=Aside0.mk (rotr_6 x4)
   have R11:=Aside0.mk (rotr_11 x4)
   have R25:=Aside0.mk (rotr_25 x4)
   have R2:=Aside0.mk (rotr_2 x0)
   have R13:=Aside0.mk (rotr_13 x0)
   have R22:=Aside0.mk (rotr_22 x0)
   generalize hr6:rotrN x4 6=r6 at R6
   generalize hr11:rotrN x4 11=r11 at R11
   generalize hr25:rotrN x4 25=r25 at R25
   generalize hr2:rotrN x0 2=r2 at R2
   generalize hr13:rotrN x0 13=r13 at R13
   generalize hr22:rotrN x0 22=r22 at R22
   have HE:=Aside0.mk (And.intro hkt (And.intro hwt (And.intro hr6 (And.intro hr11 (And.intro hr25 (And.intro hr2 (And.intro hr13 hr22)))))))
   clear hkt hwt hr6 hr11 hr25 hr2 hr13 hr22
   go_wp2
   go_quiet (fail)
   go_wp2
   go_quiet (first|(go_at_call 115;(with_reducible refine (sha_rotr.calls _ _ _ _ R6.out).mono ?_);rintro e w' ⟨rfl,⟨nd,rfl⟩⟩;(try first|exact ⟨rfl,_,World.drewN_drewN _ _ _⟩|exact ⟨rfl,_,Eq.trans (World.drewN_drewN _ _ _) (congrArg (World.drewN _) (Nat.add_assoc _ _ _))⟩))|(go_at_call 115;(with_reducible refine (sha_rotr.calls _ _ _ _ R11.out).mono ?_);rintro e w' ⟨rfl,⟨nd,rfl⟩⟩;(try first|exact ⟨rfl,_,World.drewN_drewN _ _ _⟩|exact ⟨rfl,_,Eq.trans (World.drewN_drewN _ _ _) (congrArg (World.drewN _) (Nat.add_assoc _ _ _))⟩))|(go_at_call 115;(with_reducible refine (sha_rotr.calls _ _ _ _ R25.out).mono ?_);rintro e w' ⟨rfl,⟨nd,rfl⟩⟩;(try first|exact ⟨rfl,_,World.drewN_drewN _ _ _⟩|exact ⟨rfl,_,Eq.trans (World.drewN_drewN _ _ _) (congrArg (World.drewN _) (Nat.add_assoc _ _ _))⟩)))
   go_wp2_with (first|(go_at_call 115;(with_reducible refine (sha_rotr.calls _ _ _ _ R2.out).mono ?_);rintro e w' ⟨rfl,⟨⟨ndR2,rfl⟩⟩⟩)|(go_at_call 115;(with_reducible refine (sha_rotr.calls _ _ _ _ R13.out).mono ?_);rintro e w' ⟨rfl,⟨⟨ndR13,rfl⟩⟩⟩)|(go_at_call 115;(with_reducible refine (sha_rotr.calls _ _ _ _ R22.out).mono ?_);rintro e w' ⟨rfl,⟨⟨ndR22,rfl⟩⟩⟩)|(refine wpList_store_row rfl 28 (.tmp 7) (.tmp 100) rfl W3.heap.size (List.map (Value.int .u32) [_,x0,x1,x2,_,x4,x5,x6]).toArray rfl rfl 28 _ (HB7.out.drew _).out ?hs ?hz ?ho ?_;(case hs=>exact blk_size8 rfl);(case hz=>exact blk_same rfl);(case ho=>exact blk_one _)))
   go_roundg gg
   case measure=>omega
   case rel =>
    refine ⟨t+1,_,x0,x1,x2,_,x4,x5,x6,by omega,by go_num,?_,⟨(HB7.out.drew _).row [_,x0,x1,x2,_,x4,x5,x6]⟩,⟨(HM4.out.drew _).row hlt7 _⟩⟩
    obtain ⟨rfl,rfl,rfl,rfl,rfl,rfl,rfl,rfl⟩:=HE.out
    exact ⟨HA.out⟩
  ·
   have hltz:¬ (t:Int) < 64:=by omega
   have h0:gk=0:=by omega
   subst h0
   go_wp2
   go_loopg [15,102] 8 (fun gg _ s102 wr=>∃ (i:Nat) (x:List Int),i+gg=8∧s102=.int .i64 (i:Int)∧Aside0 (x.length=8)∧Aside0 (res=mixAdd s gg i x)∧Aside0 (Blk wr W3.heap.size 28 x)∧Aside0 (MixI w wr w2.heap.size s ww kk))
   case atStart=>exact ⟨0,_,rfl,rfl,⟨rfl⟩,HA,HB7,HM4⟩
   case round =>
    clear HA HB7 HM4 ht hlt hltz
    obtain ⟨i,x,hi,rfl,HX,HA,HB7,HM4⟩:=hrel
    by_cases hlt:i < 8
    ·
     obtain ⟨gg,rfl⟩:∃ m,gk=m+1:=⟨gk - 1,by omega⟩
     have hltz:(i:Int) < 8:=by omega
     have p0:0≤(i:Int):=by omega
     have q1:W3.heap.size≠w.heap.size:=by omega
     go_wp2
     refine wp_region_still_tail 8 (by kernel_rfl) (by kernel_rfl) ?_
     change wpStill _ _ wr.drew (fun a'=>wpList _ _ _ _ a' wr.drew) _ _
     have hf:wr.drew.frozen? ⟨W3.heap.size,i,none⟩=false:=HB7.out.frozen i
     have l1:wr.drew.cell? ⟨W3.heap.size,i,none⟩=_:=HB7.out.at i (by have:=HX.out;omega)
     have l2:wr.drew.cell? ⟨w.heap.size,i,none⟩=_:=HM4.out.j.g2.at i (by have:=HS.out;omega)
     have B6:=Aside0.mk (HB7.out.drew 1)
     have M6:=Aside0.mk (HM4.out.drew 1)
     have hstep:mixAdd s (gg+1) i x=mixAdd s gg (i+1) (x.set i ((x.getD i 0+s.getD i 0) % 4294967296)):=rfl
     generalize x.getD i 0=xi at l1 hstep
     generalize s.getD i 0=si at l2 hstep
     have HST:=Aside0.mk hstep
     clear hstep HB7 HM4
     generalize hw6:wr.drew=w6 at hf l1 l2 ⊢
     simp only [List.take_succ_cons,List.take_zero,List.drop_succ_cons,List.drop_zero]
     repeat still_step
     refine wpStill_nil ?_
     go_wp2
     go_roundg gg
     case measure=>omega
     case rel=>exact ⟨i+1,x.set i ((xi+si) % 4294967296),by omega,by go_num,⟨by rw [List.length_set];exact HX.out⟩,⟨by rw [HA.out,HST.out]⟩,⟨hw6 ▸ B6.out.set i _⟩,⟨hw6 ▸ M6.out.cell hlt7 _ _⟩⟩
    ·
     have hltz:¬ (i:Int) < 8:=by omega
     have h0:gk=0:=by omega
     subst h0
     have hsx:=blk_size8 HX.out
     have hox:=blk_one x
     have hzx:((List.replicate 8 (0:Int)).map (Value.int .u32)).toArray.size=(x.map (Value.int .u32)).toArray.size:=blk_same (by simp [HX.out])
     have hres:res=x:=HA.out
     subst hres
     go_wp2_with (first|(refine wpList_load_row rfl 28 (.tmp 7) rfl W3.heap.size rfl 28 _ (0,0) _ HB7.out.out Try.underlying28 rfl hsx ?_)|(refine wpList_store_row rfl 28 (.tmp 4) (.tmp 114) rfl (w.heap.size+1) _ rfl rfl 28 _ HM4.out.j.g4.out hsx hzx hox ?_))
     refine bodyPost_ret (results_cell_row rfl _ _ (w.heap.size+1) 28 _ (0,0) _ rfl (HM4.out.j.g4.row _).out Try.underlying28 rfl hsx) rfl ?_
     exact ⟨rfl,below_row HM4.out.j.bel (by omega) _⟩
end Go.Proofs.Ytelcaepenfjloaa.Print
/-! #### MaShaSum -/
/- sha.Hash: New, Write, Sum, Len; sha.Sum. -/
namespace Go.Proofs.Ytelcaepenfjloaa.Print
open Go.RowKit Go.Proofs.YtelcaepenfjloaaW.PrintWords Go.Proofs.YtelcaepenfjloaaW.PrintLast Go.Proofs.YtelcaepenfjloaaW.PrintMore
theorem min2_min (k k':IntKind) (x y:Int):Builtin.min2 (.int k x) (.int k' y)=pure (.int k (min x y)):=by
 rw [min2_int,show (if y < x then y else x)=min x y by omega]
attribute [local go_sem] min2_min min_two
set_option linter.unusedVariables false
set_option linter.unusedSimpArgs false
section
variable {P:Program} {ops:Array Oper} {o:Oper} {a:Act} {Q:Exit→Act→World→Prop} {Kc:Act→World→Prop}
theorem step_append_str {w0 W:World} (base:Nat) (hw:Region.wanted o (yielded ops a.tmps)=true) (s x:Operand) (t u e:TypeId)
  (ho:o.op=.call { callee:=.builtin .append,args:=#[s,x],argTypes:=#[t,u] })
  (ht:P.underlying t=some (.slice e)) (hu:P.underlying u=some .string) (hinfo:(P.info? e).map (fun i=>(i.zero,i.size,i.bytes))=some (some (.int .u8 0),1,1))
  (v:Value) (xs:List Int) (y:ByteArray) (hs:a.eval s=v) (hx:a.eval x=.string y)
  (HO:W.ownsRow base e 1 v xs.length (nums .u8 xs)) (HB:Below base w0 W) (hbase:base≤W.heap.size) (hl:xs.length+y.size≤140737488355328)
  (h:∀ v1 w1,w1.ownsRow base e 1 v1 (xs ++ bytesOf y).length (nums .u8 (xs ++ bytesOf y))→Below base w0 w1→W.grownBy w1 v.ownBlock→Kc (a.put o.dst v1) w1) :
  if Region.wanted o (yielded ops a.tmps)=true then Oper.wp P o a W Kc Q else Kc (a.put o.dst undef) W:=by
 obtain ⟨i0,hi,hzz⟩:=Option.map_eq_some_iff.1 hinfo
 simp only [Prod.mk.injEq] at hzz
 obtain ⟨hz0,hz1,hz2⟩:=hzz
 rw [if_pos hw]
 obtain ⟨v1,w1,hr,hown,hg,_⟩:=Lib.run_append_own_string (P:=P) W base t u o.type e i0 ht hu hi hz0 hz1 hz2 v xs.length (nums .u8 xs) HO y (by simp only [maxLen];omega) hl hbase
 have hl2:(xs ++ bytesOf y).length=xs.length+y.size:=by rw [List.length_append,bytesOf_length]
 have hc:nums .u8 (xs ++ bytesOf y)=nums .u8 xs ++ Lib.strCells y:=by
  rw [nums_append]
  congr 1
  simp [nums,bytesOf,Lib.strCells]
 unfold Oper.wp execOp
 simp only [ho,resolve,invoke,builtin,Sem.run_bind,Sem.run_pure,Result.andThen_ok,List.map_toArray,List.map_cons,List.map_nil,hs,hx,hr]
 exact h v1 w1 (by rw [hl2,hc];exact hown) (HB.grown hg hbase (own_base HO)) hg
end
/-- Block g is a sum: its state, what is no whole block, how many bytes were written. -/
structure HashW (B:Nat) (W:World) (g:Nat) (st:List Int) (v:Value) (pt:List Int) (n:Int):Prop where
 blk:W.heap[g]?=some (.cells (st.map (Value.int .u32) ++ [v,.int .i64 n]).toArray 116 (0,0))
 len:st.length=8
 own:Kd.R (Kd.int .u8) 5 W B (fun _=>True) v pt
 ge:B≤g
theorem HashW.part {B:Nat} {W:World} {g:Nat} {st:List Int} {v:Value} {pt:List Int} {n:Int} (h:HashW B W g st v pt n):W.cell? ⟨g,8,none⟩=some v:=by
 rw [blk_cell h.blk]
 simp [h.len]
theorem HashW.num {B:Nat} {W:World} {g:Nat} {st:List Int} {v:Value} {pt:List Int} {n:Int} (h:HashW B W g st v pt n):W.cell? ⟨g,9,none⟩=some (.int .i64 n):=by
 rw [blk_cell h.blk]
 simp [h.len]
theorem HashW.ne {B:Nat} {W:World} {g:Nat} {st:List Int} {v:Value} {pt:List Int} {n:Int} (h:HashW B W g st v pt n):some g≠v.ownBlock:=Kd.R_ne h.own h.blk (by decide)
theorem HashW.setNum {B:Nat} {W:World} {g:Nat} {st:List Int} {v:Value} {pt:List Int} {n:Int} (h:HashW B W g st v pt n) (m:Int):HashW B (W.setCell ⟨g,9,none⟩ (.int .i64 m)) g st v pt m:=by
 refine ⟨?_,h.len,Kd.R_set h.own h.blk (by decide) 9 _,h.ge⟩
 rw [blk_set h.blk]
 have:=h.len
 obtain ⟨a,b,c,d,e,f,i,j,rfl⟩:=list8 st h.len
 rfl
/-- A row of bytes is put there. -/
theorem HashW.setPart {B:Nat} {W:World} {g:Nat} {st:List Int} {v0:Value} {n:Int} (hb:W.heap[g]?=some (.cells (st.map (Value.int .u32) ++ [v0,.int .i64 n]).toArray 116 (0,0))) (hl:st.length=8) (hg:B≤g) (v1:Value) (p1:List Int) (h1:Kd.R (Kd.int .u8) 5 W B (fun _=>True) v1 p1):HashW B (W.setCell ⟨g,8,none⟩ v1) g st v1 p1 n:=by
 refine ⟨?_,hl,Kd.R_set h1 hb (by decide) 8 _,hg⟩
 rw [blk_set hb]
 obtain ⟨a,b,c,d,e,f,i,j,rfl⟩:=list8 st hl
 rfl
theorem mixStep_len (k w s:List Int) (t:Nat) (h:s.length=8):(mixStep k w s t).length=8:=by
 obtain ⟨a,b,c,d,e,f,i,j,rfl⟩:=list8 s h
 rfl
theorem mixL_len (k w:List Int):∀ (n t:Nat) (s:List Int),s.length=8→(mixL k w n t s).length=8
 | 0,_,_,h=>h
 | n+1,t,s,h=>mixL_len k w n (t+1) _ (mixStep_len k w s t h)
theorem mixAdd_len (st:List Int):∀ (n i:Nat) (s:List Int),(mixAdd st n i s).length=s.length
 | 0,_,_=>rfl
 | n+1,i,s=>by rw [mixAdd,mixAdd_len st n,List.length_set]
theorem mixB_len (st l:List Int) (h:st.length=8):(mixB st l).length=8:=by rw [mixB,mixAdd_len];exact mixL_len _ _ _ _ _ h
/-- The state's eight cells. -/
theorem HashW.cells {B:Nat} {W:World} {g:Nat} {x0 x1 x2 x3 x4 x5 x6 x7:Int} {v:Value} {pt:List Int} {n:Int} (h:HashW B W g [x0,x1,x2,x3,x4,x5,x6,x7] v pt n) :
  W.cell? ⟨g,0,none⟩=some (.int .u32 x0)∧W.cell? ⟨g,1,none⟩=some (.int .u32 x1)∧W.cell? ⟨g,2,none⟩=some (.int .u32 x2)∧W.cell? ⟨g,3,none⟩=some (.int .u32 x3)∧W.cell? ⟨g,4,none⟩=some (.int .u32 x4)∧W.cell? ⟨g,5,none⟩=some (.int .u32 x5)∧W.cell? ⟨g,6,none⟩=some (.int .u32 x6)∧W.cell? ⟨g,7,none⟩=some (.int .u32 x7):=by
 refine ⟨?_,?_,?_,?_,?_,?_,?_,?_⟩ <;> (rw [blk_cell h.blk];rfl)
theorem HashW.below {B:Nat} {W W':World} {g:Nat} {st:List Int} {v:Value} {pt:List Int} {n:Int} (h:HashW B W g st v pt n) (hb:Below W.heap.size W W'):HashW B W' g st v pt n :=
 ⟨blk_below h.blk hb,h.len,Kd.R_below h.own hb,h.ge⟩
theorem HashW.setOne {B:Nat} {W:World} {g:Nat} {st:List Int} {v:Value} {pt:List Int} {n:Int} (h:HashW B W g st v pt n) (i:Nat) (hi:i < 8) (y:Int):HashW B (W.setCell ⟨g,i,none⟩ (.int .u32 y)) g (st.set i y) v pt n:=by
 refine ⟨?_,by rw [List.length_set];exact h.len,Kd.R_set h.own h.blk (by decide) i _,h.ge⟩
 rw [blk_set h.blk]
 have:i < st.length:=by rw [h.len];exact hi
 simp [List.map_set,List.set_append,this]
theorem HashW.drew {B:Nat} {W:World} {g:Nat} {st:List Int} {v:Value} {pt:List Int} {n:Int} (h:HashW B W g st v pt n):HashW B W.drew g st v pt n:=⟨h.blk,h.len,Kd.R_drew h.own,h.ge⟩
/-- Another state is put there, cell by cell. -/
theorem HashW.setState {B:Nat} {W:World} {g:Nat} {st:List Int} {v:Value} {pt:List Int} {n:Int} (h:HashW B W g st v pt n) (y0 y1 y2 y3 y4 y5 y6 y7:Int) :
  HashW B ((((((((W.setCell ⟨g,0,none⟩ (.int .u32 y0)).setCell ⟨g,1,none⟩ (.int .u32 y1)).setCell ⟨g,2,none⟩ (.int .u32 y2)).setCell ⟨g,3,none⟩ (.int .u32 y3)).setCell ⟨g,4,none⟩ (.int .u32 y4)).setCell ⟨g,5,none⟩ (.int .u32 y5)).setCell ⟨g,6,none⟩ (.int .u32 y6)).setCell ⟨g,7,none⟩ (.int .u32 y7)) g [y0,y1,y2,y3,y4,y5,y6,y7] v pt n:=by
 have h7:=((((((((h.setOne 0 (by omega) y0).setOne 1 (by omega) y1).setOne 2 (by omega) y2).setOne 3 (by omega) y3).setOne 4 (by omega) y4).setOne 5 (by omega) y5).setOne 6 (by omega) y6).setOne 7 (by omega) y7)
 obtain ⟨a,b,c,d,e,f,i,j,rfl⟩:=list8 st h.len
 exact h7
/-- What stands behind bytes that are written: the state, and what is no whole block. -/
def hashGo:Nat→List Int→List Int→ByteArray→List Int×List Int
 | 0,st,p,_=>(st,p)
 | k+1,st,p,s =>
  if (p ++ bytesOf (s.extract 0 (min (64 - p.length) s.size))).length=64 then hashGo k (mixB st (p ++ bytesOf (s.extract 0 (min (64 - p.length) s.size)))) [] (s.extract (min (64 - p.length) s.size) s.size)
  else (st,p ++ bytesOf (s.extract 0 (min (64 - p.length) s.size)))
theorem below_via {B:Nat} {w a b:World} (h:Below B w a) (hB:B≤w.heap.size) (k:Below a.drew.heap.size a.drew b):Below B w b:=h.drew.trans (k.mono (Nat.le_trans hB h.drew.size))
set_option maxHeartbeats 800000 in
set_option maxRecDepth 100000 in
theorem write_calls (B g:Nat) (st pt:List Int) (v:Value) (n:Int) (s:ByteArray) (w:World) (h:HashW B w g st v pt n) (hB:B≤w.heap.size) (hp:pt.length < 64) (h0:0≤n) (hn:(s.size:Int)≤65536 - n) :
  Calls Try.prog 37 #[.pointer (some ⟨g,0,none⟩),.string s] w fun e w'=>e=.returned (.int .i64 0)∧Below B w w'∧∃ v',HashW B w' g (hashGo (s.size+1) st pt s).1 v' (hashGo (s.size+1) st pt s).2 (n+s.size):=by
 obtain ⟨res,hres⟩:∃ res,res=hashGo (s.size+1) st pt s:=⟨_,rfl⟩
 rw [← hres]
 have HRES:=Aside0.mk hres
 have HB:=Aside0.mk hB
 have HP:=Aside0.mk hp
 have H:=Aside0.mk h
 have e1:wrap64 (65536 - n)=65536 - n:=by unfold wrap64;omega
 have e2:wrap64 (n+s.size)=n+s.size:=by unfold wrap64;omega
 have c1:¬ 65536 - n < (s.size:Int):=by omega
 have k9:=h.num
 have f9:w.frozen? ⟨g,9,none⟩=false:=blk_frozen h.blk 9
 clear hres h hB hp
 go_enter Try.func37,Try.ntmps37
 go_wp2
 refine wp_scope_ghost 0 (fun kq a_ w'=>∃ (s':ByteArray) (st' pt':List Int) (v':Value) (uu5 uu6 uu7 uu8 uu9 uu10 uu11 uu12 uu13 uu14 uu15 uu16 uu17 uu18 uu19 uu20 uu21 uu22 uu23 uu24 uu25 uu26 uu27 uu28 uu29 uu30 uu31 uu32 uu33 uu34 uu35 uu36 uu37 uu38 uu39 uu40 uu41 uu42 uu43 uu44 uu45 uu46 uu47 uu48 uu49 uu50 uu51 uu52 uu53 uu54 uu55 uu56 uu57 uu58 uu59 uu60 uu61 uu62 uu63 uu64 uu65 uu66 uu67 uu68 uu69 uu70 uu71 uu72 uu73 uu74 uu75:Value),a_={ tmps:=#[.pointer (some ⟨g,0,none⟩),.string s',undef,undef,.int .i64 0,uu5,uu6,uu7,uu8,uu9,uu10,uu11,uu12,uu13,uu14,uu15,uu16,uu17,uu18,uu19,uu20,uu21,uu22,uu23,uu24,uu25,uu26,uu27,uu28,uu29,uu30,uu31,uu32,uu33,uu34,uu35,uu36,uu37,uu38,uu39,uu40,uu41,uu42,uu43,uu44,uu45,uu46,uu47,uu48,uu49,uu50,uu51,uu52,uu53,uu54,uu55,uu56,uu57,uu58,uu59,uu60,uu61,uu62,uu63,uu64,uu65,uu66,uu67,uu68,uu69,uu70,uu71,uu72,uu73,uu74,uu75],defers:=[] }∧Aside0 (HashW B w' g st' v' pt' (n+s.size))∧Aside0 (res=hashGo kq st' pt' s')∧Aside0 (pt'.length < 64)∧s'.size < kq∧s'.size≤65536∧Aside0 (Below B w w')) rfl ?round ?first
 case first =>
  intro hpass
  go_wp2
  go_step3
  rename_i hk_
  refine hk_ _ _ (hpass (s.size+1) _ _ ?_)
  exact ⟨s,st,pt,v,_,_,_,_,_,_,_,_,_,_,_,_,_,_,_,_,_,_,_,_,_,_,_,_,_,_,_,_,_,_,_,_,_,_,_,_,_,_,_,_,_,_,_,_,_,_,_,_,_,_,_,_,_,_,_,_,_,_,_,_,_,_,_,_,_,_,_,_,_,_,_,rfl,⟨H.out.setNum _⟩,HRES,HP,by omega,by omega,⟨(Below.refl _ _).setCell H.out.ge _⟩⟩
 case round =>
  intro gk a_ wr' hR_
  clear HRES H HP k9 f9 e1 e2 c1
  revert hR_
  simp only [forall_exists_index,and_imp]
  intro s' st' pt' v' u5 u6 u7 u8 u9 u10 u11 u12 u13 u14 u15 u16 u17 u18 u19 u20 u21 u22 u23 u24 u25 u26 u27 u28 u29 u30 u31 u32 u33 u34 u35 u36 u37 u38 u39 u40 u41 u42 u43 u44 u45 u46 u47 u48 u49 u50 u51 u52 u53 u54 u55 u56 u57 u58 u59 u60 u61 u62 u63 u64 u65 u66 u67 u68 u69 u70 u71 u72 u73 u74 u75 ha_ H HRES HP hgk hs' HBl
  subst ha_
  obtain ⟨kk,rfl⟩:∃ m,gk=m+1:=⟨gk - 1,by omega⟩
  obtain ⟨A,c,hv⟩:=Kd.R_slice H.out.own
  subst hv
  have k8:=H.out.part
  have hp':=HP.out
  have w1:IntKind.i64.wrap (64 - (pt'.length:Int))=64 - pt'.length:=IntWalk.i64_in _ (by omega)
  obtain ⟨m,hm⟩:∃ m,m=min (64 - pt'.length) s'.size:=⟨_,rfl⟩
  have m1:min (64 - (pt'.length:Int)) (s'.size:Int)=(m:Int):=by omega
  have m2:m≤s'.size:=by omega
  have m3:(m:Int)≤(s'.size:Int):=by omega
  have m4:0≤(m:Int):=by omega
  have HMm:=Aside0.mk hm
  clear hm
  go_wp2
  clear w1
  have HBd:=HBl.out.drew
  have hsz:(s'.extract 0 m).size=m:=by simp;omega
  have HOd:=Kd.own_of_R (Kd.R_drew H.out.own)
  have hbd:B≤wr'.drew.heap.size:=Nat.le_trans HB.out HBd.size
  have hld:pt'.length+(s'.extract 0 m).size≤140737488355328:=by omega
  have hg8:wr'.drew.heap[g]?=_:=H.out.blk
  have hkeep:∀ w7:World,wr'.drew.grownBy w7 (Value.slice A pt'.length c).ownBlock→w7.cell? ⟨g,8,none⟩=some (.slice A pt'.length c)∧w7.frozen? ⟨g,8,none⟩=false:=fun w7 hg=>by
   have:=blk_grown hg8 hg H.out.ne
   refine ⟨?_,blk_frozen this 8⟩
   rw [blk_cell this]
   simp [H.out.len]
  have HKEEP:=Aside0.mk hkeep
  have HG8:=Aside0.mk hg8
  clear hkeep hg8
  go_region_law ((refine step_append_str (w0:=w) B (by rfl) (.tmp 40) (.tmp 43) 47 9 5 rfl Try.underlying47 Try.underlying9 info5 (.slice A pt'.length c) pt' (s'.extract 0 m) rfl rfl HOd HBd hbd hld ?_;intro v1 w7 ho hb7 hg7;have hr7:Kd.R (Kd.int .u8) 5 w7 B (fun _=>True) v1 (pt' ++ bytesOf (s'.extract 0 m)):=Kd.R_of_own ho (fun _ _=>trivial);obtain ⟨p1,hp1⟩:∃ p,p=pt' ++ bytesOf (s'.extract 0 m):=⟨_,rfl⟩;rw [← hp1] at hr7;have HP1:=Aside0.mk hp1;clear ho hp1;obtain ⟨A7,c7,hv7⟩:=Kd.R_slice hr7;subst hv7;obtain ⟨k9,f9⟩:=HKEEP.out _ hg7))
  refine gen_world (fun W=>HashW B W g st' (.slice A7 p1.length c7) p1 (n+s.size)∧Below B w W) ⟨HashW.setPart (blk_grown HG8.out hg7 H.out.ne) H.out.len H.out.ge _ _ hr7,hb7.setCell H.out.ge _⟩ ?_
  rintro w8 ⟨h8,hb8⟩
  have H8:=Aside0.mk h8
  have HB8:=Aside0.mk hb8
  have hpl:p1.length=pt'.length+m:=by rw [HP1.out,List.length_append,bytesOf_length,hsz]
  have hst:res=if p1.length=64 then hashGo kk (mixB st' p1) [] (s'.extract m s'.size) else (st',p1):=by
   rw [HRES.out,hashGo,← HMm.out,← HP1.out]
  have hs2:(s'.extract m s'.size).size=s'.size - m:=by simp
  clear hb8 hg7 hb7 hr7 k9 f9 HG8 HKEEP hld hbd HOd HBd H HBl HRES k8 HP1 hsz
  obtain ⟨s2,hs2'⟩:∃ s2,s2=s'.extract m s'.size:=⟨_,rfl⟩
  rw [← hs2'] at hs2 hst
  have HS2:=Aside0.mk hs2'
  have HST:=Aside0.mk hst
  have k8:=h8.part
  have n8:=h8.num
  clear hst h8 n8 hs2'
  have HPL:=Aside0.mk hpl
  clear hpl
  by_cases hf1:p1.length=64
  ·
   have hf2:((p1.length:Int) == 64)=true:=by rw [hf1];rfl
   have hr8:=Kd.R_reads' H8.out.own
   have h64:64≤p1.length:=Nat.le_of_eq hf1.symm
   have h63:p1.length≤9223372036854775807:=by rw [hf1];decide
   have hmc:=fun (W:World) (hR:Kd.C (Kd.int .u8) W A7 p1.length p1)=>mix_calls st' A7 c7 p1 W H8.out.len hR hr8.2.1 h64 h63
   have hrd:=hr8.2.2
   rw [hf1] at hrd
   have HRD:=Aside0.mk hrd
   clear hrd
   have hl:=mixB_len st' p1 H8.out.len
   generalize hmb:mixB st' p1=yy at hmc hl
   have HY:=Aside0.mk hmb
   clear hr8 h64 h63 hmb
   obtain ⟨y0,y1,y2,y3,y4,y5,y6,y7,rfl⟩:=list8 yy hl
   obtain ⟨x0,x1,x2,x3,x4,x5,x6,x7,hx⟩:=list8 st' H8.out.len
   subst hx
   have HMC:Aside0 (∀ (W:World),Kd.C (Kd.int .u8) W A7 64 p1→Calls Try.prog 83 #[.agg #[.int .u32 x0,.int .u32 x1,.int .u32 x2,.int .u32 x3,.int .u32 x4,.int .u32 x5,.int .u32 x6,.int .u32 x7],.slice A7 64 c7] W fun e w'=>e=.returned (.agg #[.int .u32 y0,.int .u32 y1,.int .u32 y2,.int .u32 y3,.int .u32 y4,.int .u32 y5,.int .u32 y6,.int .u32 y7])∧Below W.heap.size W w'):=⟨by rw [hf1] at hmc;exact hmc⟩
   clear hmc hl
   obtain ⟨c0,c1,c2,c3,c4,c5,c6,c7'⟩:=H8.out.cells
   go_wp2
   go_region_with ((go_at_call 83;refine (HMC.out _ ?_).mono ?_;(repeat (first|exact HRD.out|(with_reducible refine Kd.C_drewN ?_ _)|(with_reducible refine Kd.C_drew ?_)));rintro e w9 ⟨rfl,hb9⟩;have h9:=Aside0.mk (H8.out.drew.below hb9);obtain ⟨d0,d1,d2,d3,d4,d5,d6,d7⟩:=h9.out.cells;have f0:=blk_frozen h9.out.blk 0;have f1:=blk_frozen h9.out.blk 1;have f2:=blk_frozen h9.out.blk 2;have f3:=blk_frozen h9.out.blk 3;have f4:=blk_frozen h9.out.blk 4;have f5:=blk_frozen h9.out.blk 5;have f6:=blk_frozen h9.out.blk 6;have f7:=blk_frozen h9.out.blk 7))
   all_goals
    refine gen_world (fun W=>HashW B W g [y0,y1,y2,y3,y4,y5,y6,y7] (.slice A7 p1.length c7) p1 (n+s.size)∧Below B w W) ⟨h9.out.setState _ _ _ _ _ _ _ _,?bel⟩ ?_
    case bel=>exact ((((((((below_via HB8.out HB.out hb9).setCell H8.out.ge _).setCell H8.out.ge _).setCell H8.out.ge _).setCell H8.out.ge _).setCell H8.out.ge _).setCell H8.out.ge _).setCell H8.out.ge _).setCell H8.out.ge _
    rintro W4 ⟨h4,hb4⟩
    have H4:=Aside0.mk h4
    have HB4:=Aside0.mk hb4
    have e8:=h4.part
    have e9:=blk_frozen h4.blk 8
    rw [hf1] at e8
    clear h4 hb4 hb9 h9 d0 d1 d2 d3 d4 d5 d6 d7 f0 f1 f2 f3 f4 f5 f6 f7 c0 c1 c2 c3 c4 c5 c6 c7' k8
    have hc7:64≤c7:=by have:=(Kd.R_reads' H8.out.own).2.1;omega
    go_wp2
    have hsz:(s'.extract m s'.size).size=s'.size - m:=by simp
    have hpl:=HPL.out
    go_step3
    exact ⟨rfl,kk,by omega,s'.extract m s'.size,[y0,y1,y2,y3,y4,y5,y6,y7],[],.slice A7 0 c7,_,_,_,_,_,_,_,_,_,_,_,_,_,_,_,_,_,_,_,_,_,_,_,_,_,_,_,_,_,_,_,_,_,_,_,_,_,_,_,_,_,_,_,_,_,_,_,_,_,_,_,_,_,_,_,_,_,_,_,_,_,_,_,_,_,_,_,_,_,_,_,rfl,⟨HashW.setPart H4.out.blk H4.out.len H4.out.ge _ _ (Kd.R_take (m:=0) H4.out.own (Nat.zero_le _))⟩,⟨by rw [HST.out,if_pos hf1,HY.out,HS2.out]⟩,⟨by decide⟩,by omega,by omega,⟨HB4.out.setCell H8.out.ge _⟩⟩
  ·
   have hf2:((p1.length:Int) == 64)=false:=by
    rw [beq_eq_false_iff_ne]
    omega
   go_wp2
   (try simp only [Exit.jump])
   go_ret
   refine ⟨rfl,HB8.out,.slice A7 p1.length c7,?_⟩
   rw [HST.out,if_neg hf1]
   exact H8.out
end Go.Proofs.Ytelcaepenfjloaa.Print
/-! #### Pr28 -/
namespace Go.Proofs.Ytelcaepenfjloaa.Print
open Go.RowKit Go.Proofs.YtelcaepenfjloaaW.PrintWords Go.Proofs.YtelcaepenfjloaaW.PrintLast Go.Proofs.YtelcaepenfjloaaW.PrintMore
attribute [local go_sem] max2_int min2_int max_two min_two max_three min_three max_four min_four
set_option linter.unusedVariables false
set_option linter.unusedSimpArgs false
/-! ### sha_Pad: function 28 -/
mutual
def sha_Pad.j0:Nat→Int→Bool→Option (ByteArray)
 | 0,_,_=>none
 | k+1,x0,x11=>if x11=true then (some (⟨#[]⟩:ByteArray)) else ((some (([128]:List Int):List Int)).bind fun y106=>(if 0≤(Int.tmod (wrap64 (119 - (Int.tmod x0 64))) 64) then (if y106.length+(Int.tmod (wrap64 (119 - (Int.tmod x0 64))) 64:Int).toNat < 140737488355328 then (sha_Pad.l0 k x0 (y106 ++ List.replicate (Int.tmod (wrap64 (119 - (Int.tmod x0 64))) 64:Int).toNat 0) 56) else (none)) else (none)))
def sha_Pad.l0:Nat→Int→List Int→Int→Option (ByteArray)
 | 0,_,_,_=>none
 | k+1,x0,x4,x5=>if x5≥0 then (if 0≤x5 then (if x4.length < 140737488355328 then (sha_Pad.l0 k x0 (x4 ++ [(shr .u64 (IntKind.u64.wrap ((IntKind.u64.wrap (x0)) * 8)) x5) % 256]) (wrap64 (x5 - 8))) else (none)) else (none)) else (some (strOfNums x4))
end
def sha_Pad.f (k:Nat) (a0:Int):Option (ByteArray):=if a0 < 0 then (sha_Pad.j0 k a0 true) else (sha_Pad.j0 k a0 (decide (a0 > 65536)))
theorem sha_Pad.mono_l:∀ k,(∀ y0 y1,LeO (sha_Pad.j0 k y0 y1) (sha_Pad.j0 (k+1) y0 y1))∧(∀ y0 y1 y2,LeO (sha_Pad.l0 k y0 y1 y2) (sha_Pad.l0 (k+1) y0 y1 y2))
 | 0=>⟨fun _ _ r h=>by simp [sha_Pad.j0] at h,fun _ _ _ r h=>by simp [sha_Pad.l0] at h⟩
 | k+1=>by
  obtain ⟨ih0,ih1⟩:=sha_Pad.mono_l k
  refine ⟨?_,?_⟩
  ·
   intro y0 y1
   unfold sha_Pad.j0
   repeat' first
   | (with_reducible exact ih0 _ _)
   | (with_reducible exact ih1 _ _ _)
   | (with_reducible exact LeO.refl _)
   | (with_reducible exact LeO.none _)
   | (with_reducible refine LeO.ite ?_ ?_)
   | (with_reducible refine LeO.bind ?_ (fun _=>?_))
   | exact ih0 _ _
   | exact ih1 _ _ _
   | exact LeO.none _
   | refine LeO.ite ?_ ?_
   | refine LeO.bind ?_ (fun _=>?_)
  ·
   intro y0 y1 y2
   unfold sha_Pad.l0
   repeat' first
   | (with_reducible exact ih0 _ _)
   | (with_reducible exact ih1 _ _ _)
   | (with_reducible exact LeO.refl _)
   | (with_reducible exact LeO.none _)
   | (with_reducible refine LeO.ite ?_ ?_)
   | (with_reducible refine LeO.bind ?_ (fun _=>?_))
   | exact ih0 _ _
   | exact ih1 _ _ _
   | exact LeO.none _
   | refine LeO.ite ?_ ?_
   | refine LeO.bind ?_ (fun _=>?_)
theorem sha_Pad.mono:∀ a0 k,LeO (sha_Pad.f k a0) (sha_Pad.f (k+1) a0):=by
 intro a0 k
 obtain ⟨ih0,ih1⟩:=sha_Pad.mono_l k
 unfold sha_Pad.f
 repeat' first
   | (with_reducible exact ih0 _ _)
   | (with_reducible exact ih1 _ _ _)
   | (with_reducible exact LeO.refl _)
   | (with_reducible exact LeO.none _)
   | (with_reducible refine LeO.ite ?_ ?_)
   | (with_reducible refine LeO.bind ?_ (fun _=>?_))
   | exact ih0 _ _
   | exact ih1 _ _ _
   | exact LeO.none _
   | refine LeO.ite ?_ ?_
   | refine LeO.bind ?_ (fun _=>?_)
set_option maxHeartbeats 8000000 in
set_option maxRecDepth 100000 in
theorem sha_Pad.calls (k:Nat) (a0:Int) (r:ByteArray) (w:World) (h:sha_Pad.f k a0=some r) :
  Calls Try.prog 28 #[.int .i64 a0] w fun e w'=>e=.returned (.string r)∧Below w.heap.size w w':=by
 have HB:=Aside0.mk (Below.refl w.heap.size w)
 have H:(if a0 < 0 then (sha_Pad.j0 k a0 true) else (sha_Pad.j0 k a0 (decide (a0 > 65536))))=some r:=h
 clear h
 have HC2:=Aside0.mk H
 clear H
 go_enter Try.func28,Try.ntmps28
 go_upto_region 1 with (fail)
 go_cut [11] (fun v11 wc=>∃ (kq:Nat) (x11_1:Bool),v11=.bool x11_1∧Aside0 (sha_Pad.j0 kq a0 x11_1=some r)∧Aside0 (kq≤k)∧Aside0 (Below w.heap.size w wc))
 case first =>
  have H:=HC2.out
  clear HC2
  by_cases c3:a0 < 0
  ·
   rw [if_pos c3] at H
   have c3b0:decide (a0 < 0)=true:=decide_eq_true c3
   clear c3
   (first|rw [c3b0]|(simp only [i64_w,i32_w];rw [c3b0])|skip)
   have H':=Aside0.mk H
   clear H
   go_wp2
   go_meet
   case rel=>exact ⟨_,(true),(by first|rfl|(simp;done)|(simp [*];done)),H',⟨by first|omega|exact Nat.le_refl _⟩,⟨by repeat (first|(with_reducible first|exact HB.out|apply below_alloc|apply pw_below_drewN|apply below_drew1)|exact HB.out)⟩⟩
  ·
   rw [if_neg c3] at H
   have c3b0:decide (a0 < 0)=false:=decide_eq_false c3
   clear c3
   (first|rw [c3b0]|(simp only [i64_w,i32_w];rw [c3b0])|skip)
   have H':=Aside0.mk H
   clear H
   go_wp2
   go_meet
   case rel=>exact ⟨_,(decide (a0 > 65536)),(by first|rfl|(simp;done)|(simp [*];done)),H',⟨by first|omega|exact Nat.le_refl _⟩,⟨by repeat (first|(with_reducible first|exact HB.out|apply below_alloc|apply pw_below_drewN|apply below_drew1)|exact HB.out)⟩⟩
 case rest =>
  clear HC2
  try clear c2
  try clear p2
  try clear c3
  try clear c3b0
  obtain ⟨kq,x11_1,rfl,HA,HJ1,HB⟩:=hcut
  cases kq with
  | zero=>exact absurd HA.out (by simp [sha_Pad.j0])
  | succ kj1 =>
   have H:=HA.out
   clear HA
   simp only [sha_Pad.j0] at H
   by_cases c4:x11_1=true
   ·
    subst c4
    have H1:(some (⟨#[]⟩:ByteArray))=some r:=by rw [if_pos rfl] at H;exact H
    clear H
    have H:=H1
    clear H1
    obtain rfl:=Option.some.inj H
    go_wp2
    go_ret
    exact ⟨by first|rfl|(simp [errW_none,errW_some] <;> rfl)|(simp [*,errW_none,errW_some] <;> rfl),by repeat (first|(with_reducible first|exact HB.out|apply below_alloc|apply pw_below_drewN|apply below_drew1)|exact HB.out)⟩
   ·
    replace c4:=Bool.eq_false_iff.mpr c4
    subst c4
    have H1:((some (([128]:List Int):List Int)).bind fun y106=>(if 0≤(Int.tmod (wrap64 (119 - (Int.tmod a0 64))) 64) then (if y106.length+(Int.tmod (wrap64 (119 - (Int.tmod a0 64))) 64:Int).toNat < 140737488355328 then (sha_Pad.l0 kj1 a0 (y106 ++ List.replicate (Int.tmod (wrap64 (119 - (Int.tmod a0 64))) 64:Int).toNat 0) 56) else (none)) else (none)))=some r:=by rw [if_neg (show ¬ (false=true) by decide)] at H;exact H
    clear H
    have H:=H1
    clear H1
    obtain ⟨y106,hy106⟩:∃ y_:List Int,y_=(([128]:List Int)):=⟨_,rfl⟩
    replace H:(if 0≤(Int.tmod (wrap64 (119 - (Int.tmod a0 64))) 64) then (if y106.length+(Int.tmod (wrap64 (119 - (Int.tmod a0 64))) 64:Int).toNat < 140737488355328 then (sha_Pad.l0 kj1 a0 (y106 ++ List.replicate (Int.tmod (wrap64 (119 - (Int.tmod a0 64))) 64:Int).toNat 0) 56) else (none)) else (none))=some r:=by first|(rw [hy106];with_reducible exact H)|(have H2_:=(Option.bind_some _ _).symm.trans H;rw [hy106];with_reducible exact H2_)|(have H2_:=(Option.bind_some _ _).symm.trans H;with_reducible exact H2_)|with_reducible exact H|(rw [hy106];exact H)|exact H
    have Ny106:=Aside0.mk hy106
    clear hy106
    obtain ⟨ji5,hji5⟩:∃ j_:Int,(Int.tmod (wrap64 (119 - (Int.tmod a0 64))) 64)=j_:=⟨_,rfl⟩
    replace H:(if 0≤(ji5) then (if y106.length+(ji5:Int).toNat < 140737488355328 then (sha_Pad.l0 kj1 a0 (y106 ++ List.replicate (ji5:Int).toNat 0) 56) else (none)) else (none))=some r:=by first|(rw [hji5] at H;exact H)|(simp only [hji5] at H ⊢;exact H)
    by_cases c6:0≤(ji5)
    ·
     rw [if_pos c6] at H
     have c6b0:=eq_true c6
     have c6b1:decide (0≤(ji5))=true:=decide_eq_true c6
     clear c6
     by_cases c7:y106.length+(ji5:Int).toNat < 140737488355328
     ·
      rw [if_pos c7] at H
      have LMc7:=Aside0.mk c7
      clear c7
      obtain ⟨y109,hy109⟩:∃ y_:List Int,y_=(y106 ++ List.replicate (ji5:Int).toNat 0):=⟨_,rfl⟩
      replace H:(sha_Pad.l0 kj1 a0 y109 56)=some r:=by first|(rw [hy109];with_reducible exact H)|(have H2_:=(Option.bind_some _ _).symm.trans H;rw [hy109];with_reducible exact H2_)|(have H2_:=(Option.bind_some _ _).symm.trans H;with_reducible exact H2_)|with_reducible exact H|(rw [hy109];exact H)|exact H
      have Ny109:=Aside0.mk hy109
      clear hy109
      have H':=Aside0.mk H
      clear H
      go_wp2_with (first|((with_reducible refine gate_dst (N:=16) rfl ?_);refine Kd.R_lit (Kd.int .u8) _ 5 ?hg (N:=16) ?hd (xs:=([128]:List Int)) (inner:=[.int .u8 128]) (ok:=fun _=>True) (okp:=fun _=>True) ?hr ?hp (fun _ hk=>hk) trivial (Below.refl _ _) (Nat.le_refl _) (by simp) ?_;(case hd=>rfl);(case hg=>rfl);(case hr=>first|(go_simp;done)|(go_simp;rfl));(case hp=>exact (Reps.one (show Kd.M (Kd.int .u8) _ _ _ 128 [.int .u8 128] from rfl) (Reps.none _ _)));intro v107 w8 ho9 hb hg_ hnew_;clear hg_ hnew_;(first|rw [← Ny106.out] at ho9|(simp only [Int.reduceToNat] at ho9;rw [← Ny106.out] at ho9));have n0_:=Aside0.mk (Kd.R_lower ho9 (below_size (by repeat (first|(with_reducible first|exact HB.out|apply below_alloc|apply pw_below_drewN|apply below_drew1)|exact HB.out))));have n1_:=Aside0.mk (below_step (by repeat (first|(with_reducible first|exact HB.out|apply below_alloc|apply pw_below_drewN|apply below_drew1)|exact HB.out)) hb);clear HB;have HO108:=n0_;have HB:=n1_;clear n0_ n1_;clear hb ho9)|(at_builtin;refine Kd.R_append_zeros (Kd.int .u8) (w0:=w) w.heap.size rfl (.tmp 16) (.tmp 17) 47 3 5 (.int .u8 0) 1 rfl Try.underlying47 Try.underlying3 info5 rfl (by decide) (by omega) v107 y106 0 (ji5:Int) (fun _=>True) rfl rfl rfl ?aF ?aO (of_decide_eq_true (by first|(with_reducible assumption)|assumption)) ?aB ?aS ?aL ?_;(case aB=>exact (by repeat (first|(with_reducible first|exact HB.out|apply below_alloc|apply pw_below_drewN|apply below_drew1)|exact HB.out)));(case aF=>exact (fun _ _=>trivial));(case aO=>exact (by (with_reducible repeat (first|apply Kd.R_alloc|apply Kd.R_drewN|apply Kd.R_drew));exact HO108.out));(case aS=>exact (below_size (by repeat (first|(with_reducible first|exact HB.out|apply below_alloc|apply pw_below_drewN|apply below_drew1)|exact HB.out))));(case aL=>have:=LMc7.out;omega);intro v110 w10 ho hb hg hat;rw [← Ny109.out] at ho;have n0_:=Aside0.mk (hb);have n1_:=Aside0.mk (ho);clear HB;clear HO108;have HB:=n0_;have HO111:=n1_;clear n0_ n1_;clear ho hb hg hat))
      go_loopg [4,5] kj1 (fun kq v4 v5 w'=>∃ (x4_2:List Int) (x5_2:Int),v5=.int .i64 x5_2∧Aside0 (sha_Pad.l0 kq a0 x4_2 x5_2=some r)∧Aside0 (kq≤kj1)∧Aside0 (Kd.R (Kd.int .u8) 5 w' w.heap.size (fun _=>True) v4 x4_2)∧Aside0 (Below w.heap.size w w'))
      case atStart=>exact ⟨(y109),(56),(by first|rfl|(simp;done)|(simp [*];done)),H',⟨Nat.le_refl _⟩,⟨by (with_reducible repeat (first|apply Kd.R_alloc|apply Kd.R_drewN|apply Kd.R_drew));exact HO111.out⟩,⟨by repeat (first|(with_reducible first|exact HB.out|apply below_alloc|apply pw_below_drewN|apply below_drew1)|exact HB.out)⟩⟩
      case round =>
       clear H'
       try clear c2
       try clear p2
       try clear c3
       try clear c3b0
       try clear c4
       try clear c6
       try clear c6b0
       try clear c6b1
       try clear p6
       try clear c7
       try clear p2
       obtain ⟨x4_2,x5_2,rfl,HA,HK2,HO_4,HB⟩:=hrel
       cases gk with
       | zero=>exact absurd HA.out (by simp [sha_Pad.l0])
       | succ k2 =>
        have H:=HA.out
        clear HA
        simp only [sha_Pad.l0] at H
        by_cases c11:x5_2≥0
        ·
         rw [if_pos c11] at H
         have c11b0:decide (0≤x5_2)=true:=decide_eq_true c11
         clear c11
         by_cases c12:0≤x5_2
         ·
          rw [if_pos c12] at H
          have c12b0:=eq_true c12
          have c12b1:decide (0≤x5_2)=true:=decide_eq_true c12
          clear c12
          obtain ⟨ji13,hji13⟩:∃ j_:Int,(shr .u64 (IntKind.u64.wrap ((IntKind.u64.wrap (a0)) * 8)) x5_2)=j_:=⟨_,rfl⟩
          replace H:(if x4_2.length < 140737488355328 then (sha_Pad.l0 k2 a0 (x4_2 ++ [(ji13) % 256]) (wrap64 (x5_2 - 8))) else (none))=some r:=by first|(rw [hji13] at H;exact H)|(simp only [hji13] at H ⊢;exact H)
          have hji13_:((IntKind.u64.wrap ((IntKind.u64.wrap (a0)) * 8)) / 2 ^ min x5_2.toNat 64)=ji13:=hji13
          have hji13z:x5_2≤64→((IntKind.u64.wrap ((IntKind.u64.wrap (a0)) * 8)) / 2 ^ x5_2.toNat)=ji13:=shr_small hji13
          by_cases c14:x4_2.length < 140737488355328
          ·
           rw [if_pos c14] at H
           have LMc14:=Aside0.mk c14
           clear c14
           obtain ⟨y112,hy112⟩:∃ y_:List Int,y_=(x4_2 ++ [(ji13) % 256]):=⟨_,rfl⟩
           replace H:(sha_Pad.l0 k2 a0 y112 (wrap64 (x5_2 - 8)))=some r:=by first|(rw [hy112];with_reducible exact H)|(have H2_:=(Option.bind_some _ _).symm.trans H;rw [hy112];with_reducible exact H2_)|(have H2_:=(Option.bind_some _ _).symm.trans H;with_reducible exact H2_)|with_reducible exact H|(rw [hy112];exact H)|exact H
           have Ny112:=Aside0.mk hy112
           clear hy112
           have H':=Aside0.mk H
           clear H
           go_wp2_with (first|((with_reducible refine gate_builtin (b:=.append) (xs:=#[.tmp 23,.tmp 30]) rfl ?_);at_builtin;refine Kd.R_append (Kd.int .u8) (w0:=w) w.heap.size rfl (.tmp 23) (.tmp 30) 47 5 (.int .u8 0) 1 rfl Try.underlying47 info5 rfl (by decide) (by omega) u4 x4_2 ((ji13) % 256) [.int .u8 ((ji13) % 256)] (fun _=>True) (fun _=>False) rfl rfl ?aP (fun _ hk=>hk.elim) ?aF ?aO ?aB ?aS ?aL ?_;(case aP=>exact rfl);(case aB=>exact (by repeat (first|(with_reducible first|exact HB.out|apply below_alloc|apply pw_below_drewN|apply below_drew1)|exact HB.out)));(case aF=>exact (fun _ _=>trivial));(case aO=>exact (by (with_reducible repeat (first|apply Kd.R_alloc|apply Kd.R_drewN|apply Kd.R_drew));exact HO_4.out));(case aS=>exact (below_size (by repeat (first|(with_reducible first|exact HB.out|apply below_alloc|apply pw_below_drewN|apply below_drew1)|exact HB.out))));(case aL=>have:=LMc14.out;omega);intro v113 w15 ho hb hg hat;rw [← Ny112.out] at ho;have n0_:=Aside0.mk (hb);have n1_:=Aside0.mk (ho);clear HB;clear HO_4;have HB:=n0_;have HO114:=n1_;clear n0_ n1_;clear ho hb hg hat))
           go_roundg k2
           case measure=>have:=HJ1.out;have:=HK2.out;omega
           case rel=>exact ⟨(y112),(wrap64 (x5_2 - 8)),(by first|rfl|(simp;done)|(simp [*];done)),H',⟨by have:=HJ1.out;have:=HK2.out;omega⟩,⟨by (with_reducible repeat (first|apply Kd.R_alloc|apply Kd.R_drewN|apply Kd.R_drew));exact HO114.out⟩,⟨by repeat (first|(with_reducible first|exact HB.out|apply below_alloc|apply pw_below_drewN|apply below_drew1)|exact HB.out)⟩⟩
          ·
           rw [if_neg c14] at H
           exact absurd H (by simp)
         ·
          rw [if_neg c12] at H
          exact absurd H (by simp)
        ·
         rw [if_neg c11] at H
         have c11b0:decide (0≤x5_2)=false:=decide_eq_false c11
         clear c11
         obtain rfl:=Option.some.inj H
         have hcv16:=own_string (P:=Try.prog) Try.underlying47 Try.underlying5 Try.underlying9 (Kd.own_of_R HO_4.out)
         go_wp2
         go_ret
         exact ⟨by first|rfl|(simp [errW_none,errW_some] <;> rfl)|(simp only [← hji5];first|rfl|(simp [errW_none,errW_some] <;> rfl))|(simp [*,errW_none,errW_some] <;> rfl),by repeat (first|(with_reducible first|exact HB.out|apply below_alloc|apply pw_below_drewN|apply below_drew1)|exact HB.out)⟩
     ·
      rw [if_neg c7] at H
      exact absurd H (by simp)
    ·
     rw [if_neg c6] at H
     exact absurd H (by simp)
end Go.Proofs.Ytelcaepenfjloaa.Print
/-! #### MaShaSum2 -/
/- sha.Hash: New, Sum; sha.Sum. -/
namespace Go.Proofs.Ytelcaepenfjloaa.Print
open Go.RowKit Go.Proofs.YtelcaepenfjloaaW.PrintWords Go.Proofs.YtelcaepenfjloaaW.PrintLast Go.Proofs.YtelcaepenfjloaaW.PrintMore
set_option linter.unusedVariables false
set_option linter.unusedSimpArgs false
theorem cell_rowfar {W:World} {g:Nat} {cs:Array Value} {a:Addr} (h:a.block≠g):(W.setRow g cs).cell? a=W.cell? a:=by
 have:(W.setRow g cs).heap[a.block]?=W.heap[a.block]?:=by simp [World.setRow,Array.getElem?_modify,Ne.symm h]
 simp [World.cell?,this]
theorem C_rowfar {w:World} {g n:Nat} {A:Option Addr} {xs:List Int} (h:Kd.C (Kd.int .u8) w A n xs) (hf:∀ ad,A=some ad→ad.block≠g) (cs:Array Value):Kd.C (Kd.int .u8) (w.setRow g cs) A n xs :=
 ⟨h.1,h.2.1,fun hn=>by
  obtain ⟨ad,e,hc⟩:=h.2.2 hn
  exact ⟨ad,e,fun j p hp=>by
   obtain ⟨c,h1,h2,h3⟩:=hc j p hp
   exact ⟨c,h1,h2,fun i u hu=>by rw [cell_rowfar (by rw [add_block];exact hf ad e)];exact h3 i u hu⟩⟩⟩
/-- A new sum. -/
theorem new_calls (w:World):Calls Try.prog 36 #[] w fun e w'=>∃ g,e=.returned (.pointer (some ⟨g,0,none⟩))∧Below w.heap.size w w'∧g < w'.heap.size∧HashW w.heap.size w' g startS (.slice none 0 0) [] 0:=by
 have hc:(startS.map (Value.int .u32)).toArray=#[.int .u32 1779033703,.int .u32 3144134277,.int .u32 1013904242,.int .u32 2773480762,.int .u32 1359893119,.int .u32 2600822924,.int .u32 528734635,.int .u32 1541459225]:=rfl
 have hs:=start_calls
 rw [hc] at hs
 have HS:=Aside0.mk hs
 clear hs hc
 go_enter Try.func36,Try.ntmps36
 go_wp2_with (go_at_call 34;refine (HS.out _).mono ?_;rintro e w1 ⟨rfl,hb1⟩)
 go_ret
 exact ⟨w1.heap.size,rfl,below_alloc hb1 _,by simp,⟨heap_alloc_new _ _,rfl,Kd.R_nil _ _ _ _ _,hb1.size⟩⟩
def blocks:Nat→List Int→List Int→List Int
 | 0,st,_=>st
 | k+1,st,rest=>if 0 < rest.length then blocks k (mixB st (rest.take 64)) (rest.drop 64) else st
def outB (st:List Int):List Int:=st.flatMap fun x=>[x / 16777216 % 256,x / 65536 % 256,x / 256 % 256,x % 256]
theorem index8 (x0 x1 x2 x3 x4 x5 x6 x7:Int) (t:Nat) (ht:t < 8) (W:World):(Instr.index 28 (.agg #[.int .u32 x0,.int .u32 x1,.int .u32 x2,.int .u32 x3,.int .u32 x4,.int .u32 x5,.int .u32 x6,.int .u32 x7]) (.int .i64 (t:Int))).run Try.prog W=.ok (.int .u32 ([x0,x1,x2,x3,x4,x5,x6,x7].getD t 0)) W:=by
 rcases (by omega:t=0∨t=1∨t=2∨t=3∨t=4∨t=5∨t=6∨t=7) with rfl|rfl|rfl|rfl|rfl|rfl|rfl|rfl <;> kernel_rfl
theorem outB_step (l:List Int) (t:Nat) (h:t < l.length):outB (l.drop t)=[l.getD t 0 / 16777216 % 256,l.getD t 0 / 65536 % 256,l.getD t 0 / 256 % 256,l.getD t 0 % 256] ++ outB (l.drop (t+1)):=by
 unfold outB
 rw [List.drop_eq_getElem_cons h,List.flatMap_cons,List.getD_eq_getElem?_getD,List.getElem?_eq_getElem h]
 rfl
set_option maxHeartbeats 800000 in
set_option maxRecDepth 100000 in
theorem hashSum_calls (B g k:Nat) (st pt:List Int) (v:Value) (n:Int) (pad:ByteArray) (w:World) (h:HashW B w g st v pt n) (hB:B≤w.heap.size) (hp:pt.length < 64) (hn:sha_Pad.f k n=some pad) (hpad:pad.size≤72) (hall:(pt.length+pad.size) % 64=0) :
  Calls Try.prog 39 #[.pointer (some ⟨g,0,none⟩)] w fun e w'=>e=.returned (.string (strOfNums (outB (blocks 3 st (pt ++ bytesOf pad)))))∧Below w.heap.size w w':=by
 obtain ⟨res,hres⟩:∃ res,res=strOfNums (outB (blocks 3 st (pt ++ bytesOf pad))):=⟨_,rfl⟩
 rw [← hres]
 have hs8:=blk_size8 h.len
 have ho8:=blk_one st
 have hz8:((List.replicate 8 (0:Int)).map (Value.int .u32)).toArray.size=(st.map (Value.int .u32)).toArray.size:=blk_same (by simp [h.len])
 obtain ⟨x0,x1,x2,x3,x4,x5,x6,x7,rfl⟩:=list8 st h.len
 have HRES:=Aside0.mk hres
 have HB:=Aside0.mk hB
 have HP:=Aside0.mk hp
 have HN:=Aside0.mk hn
 have HPAD:=Aside0.mk hpad
 have HALL:=Aside0.mk hall
 obtain ⟨c0,c1,c2,c3,c4,c5,c6,c7⟩:=h.cells
 have H:=Aside0.mk h
 clear hres hB hp h hn hpad hall
 go_enter Try.func39,Try.ntmps39
 go_wp2_with (refine wpList_store_row rfl 28 (.tmp 3) (.tmp 13) rfl w.heap.size (List.map (Value.int .u32) [x0,x1,x2,x3,x4,x5,x6,x7]).toArray rfl rfl 28 _ ?hg hs8 hz8 ho8 ?_;(case hg=>exact (Blk.new w _ _ (List.replicate 8 0) _ rfl rfl).out);refine gen_world (fun W=>HashW B W g [x0,x1,x2,x3,x4,x5,x6,x7] v pt n∧Blk W w.heap.size 28 [x0,x1,x2,x3,x4,x5,x6,x7]∧Below w.heap.size w W) ⟨H.out.below (below_row (below_alloc (Below.refl _ _) _) (Nat.le_refl _) _),(Blk.new w _ _ (List.replicate 8 0) _ rfl rfl).row _,below_row (below_alloc (Below.refl _ _) _) (Nat.le_refl _) _⟩ ?_;rintro W3 ⟨h3,hb3,hl3⟩;have H3:=Aside0.mk h3;have HB3:=Aside0.mk hb3;have HL3:=Aside0.mk hl3;clear h3 hb3 hl3)
 obtain ⟨A,c,hv⟩:=Kd.R_slice H3.out.own
 subst hv
 have k8:=H3.out.part
 have k9:=H3.out.num
 have hg3:=blk_lt H3.out.blk
 have hgw:g≠W3.heap.size:=by omega
 have h5:HashW B ((W3.alloc (.cells #[] 5)).drew) g [x0,x1,x2,x3,x4,x5,x6,x7] (.slice A pt.length c) pt n:=(H3.out.below (below_alloc (Below.refl _ _) _)).drew
 have b5:Below w.heap.size w ((W3.alloc (.cells #[] 5)).drew):=(below_alloc HL3.out _).drew
 have r5:Kd.R (Kd.int .u8) 5 ((W3.alloc (.cells #[] 5)).drew) w.heap.size (fun _=>True) (.slice (some ⟨W3.heap.size,0,none⟩) 0 0) []:=Kd.R_drew ⟨fun _ _=>trivial,[],World.ownsRow_lit (base:=w.heap.size) (e:=5) (size:=1) W3 #[] 0 HL3.out.size (by decide) rfl,Reps.none _ _⟩
 have k8a:=h5.part
 have k9a:=h5.num
 have H5:=Aside0.mk h5
 have B5:=Aside0.mk b5
 have R5:=Aside0.mk r5
 clear h5 b5 r5
 (try simp only [Act.put,List.setIfInBounds_toArray,List.set_cons_zero,List.set_cons_succ])
 go_cut [4] (fun v4 wc=>Aside0 (Kd.R (Kd.int .u8) 5 wc w.heap.size (fun _=>True) v4 (pt ++ bytesOf pad))∧Aside0 (Blk wc w.heap.size 28 [x0,x1,x2,x3,x4,x5,x6,x7])∧Aside0 (Below w.heap.size w wc))
 case rest =>
  obtain ⟨HR,HBk,HBl⟩:=hcut
  obtain ⟨A0,c0,hv⟩:=Kd.R_slice HR.out
  subst hv
  have hfar:∀ ad,A0=some ad→ad.block≠w.heap.size:=fun ad he=>by
   have:=Kd.R_ne HR.out HBk.out.out (by decide)
   subst he
   intro hb
   exact this (by rw [← hb];rfl)
  have HF:=Aside0.mk hfar
  have HRD:=Aside0.mk (Kd.R_reads' HR.out).2
  clear hfar HR
  obtain ⟨full,hfull⟩:∃ l,l=pt ++ bytesOf pad:=⟨_,rfl⟩
  rw [← hfull] at HRD HRES
  rw [← hfull]
  have hfl:full.length % 64=0∧full.length≤64 * 2:=by
   rw [hfull,List.length_append,bytesOf_length]
   have:=HALL.out
   have:=HP.out
   have:=HPAD.out
   omega
  clear hfull
  have HFL:=Aside0.mk hfl
  clear hfl
  go_wp2
  go_loopg [4] 3 (fun gg v4 wr=>∃ (A:Option Addr) (cc:Nat) (st rest:List Int),v4=.slice A rest.length cc∧Aside0 (rest.length % 64=0∧rest.length+64≤64 * gg)∧Aside0 (rest.length≤cc)∧Aside0 (∀ ad,A=some ad→ad.block≠w.heap.size)∧Aside0 (Kd.C (Kd.int .u8) wr A rest.length rest)∧Aside0 (st.length=8)∧Aside0 (res=strOfNums (outB (blocks gg st rest)))∧Aside0 (Blk wr w.heap.size 28 st)∧Aside0 (Below w.heap.size w wr))
  case atStart=>exact ⟨A0,c0,_,full,rfl,⟨by have:=HFL.out;omega⟩,⟨HRD.out.1⟩,HF,⟨HRD.out.2⟩,⟨rfl⟩,HRES,HBk,HBl⟩
  case round =>
   clear HRES HBk HBl HRD HF HFL H3 HB3 HL3 H5 B5 R5 H k8 k9 k8a k9a hg3 hgw
   obtain ⟨A1,cc,st,rest,rfl,HL,HCc,HF,HRD,H8,HA,HBk,HBl⟩:=hrel
   by_cases hpos:0 < rest.length
   ·
    obtain ⟨k1,rfl⟩:∃ m,gk=m+1:=⟨gk - 1,by have:=HL.out;omega⟩
    have hz:0 < (rest.length:Int):=by omega
    have h64:64≤rest.length:=by have:=HL.out;omega
    have hc64:(64:Int)≤(cc:Int):=by have:=HCc.out;omega
    have hbl:blocks (k1+1) st rest=blocks k1 (mixB st (rest.take 64)) (rest.drop 64):=by rw [blocks,if_pos hpos]
    have htl:(rest.take 64).length=64:=by rw [List.length_take];omega
    have hct:Kd.C (Kd.int .u8) wr A1 64 (rest.take 64):=by
     have:=Kd.C_take HRD.out h64
     rw [htl] at this
     exact this
    have hmc:=fun (W:World) (hR:Kd.C (Kd.int .u8) W A1 (rest.take 64).length (rest.take 64))=>mix_calls st A1 cc (rest.take 64) W H8.out hR (by rw [htl];omega) (Nat.le_of_eq htl.symm) (by rw [htl];decide)
    rw [htl] at hmc
    have hl:=mixB_len st (rest.take 64) H8.out
    generalize hmb:mixB st (rest.take 64)=yy at hmc hl hbl
    obtain ⟨y0,y1,y2,y3,y4,y5,y6,y7,rfl⟩:=list8 yy hl
    obtain ⟨z0,z1,z2,z3,z4,z5,z6,z7,hz8'⟩:=list8 st H8.out
    subst hz8'
    have HMC:Aside0 (∀ (W:World),Kd.C (Kd.int .u8) W A1 64 (rest.take 64)→Calls Try.prog 83 #[.agg #[.int .u32 z0,.int .u32 z1,.int .u32 z2,.int .u32 z3,.int .u32 z4,.int .u32 z5,.int .u32 z6,.int .u32 z7],.slice A1 64 cc] W fun e w'=>e=.returned (.agg #[.int .u32 y0,.int .u32 y1,.int .u32 y2,.int .u32 y3,.int .u32 y4,.int .u32 y5,.int .u32 y6,.int .u32 y7])∧Below W.heap.size W w'):=⟨hmc⟩
    have HBL:=Aside0.mk hbl
    have HCT:=Aside0.mk hct
    clear hmc hl hmb hbl hct htl
    have d0:wr.cell? ⟨w.heap.size,0,none⟩=some (.int .u32 z0):=HBk.out.at 0 (by simp)
    have d1:wr.cell? ⟨w.heap.size,1,none⟩=some (.int .u32 z1):=HBk.out.at 1 (by simp)
    have d2:wr.cell? ⟨w.heap.size,2,none⟩=some (.int .u32 z2):=HBk.out.at 2 (by simp)
    have d3:wr.cell? ⟨w.heap.size,3,none⟩=some (.int .u32 z3):=HBk.out.at 3 (by simp)
    have d4:wr.cell? ⟨w.heap.size,4,none⟩=some (.int .u32 z4):=HBk.out.at 4 (by simp)
    have d5:wr.cell? ⟨w.heap.size,5,none⟩=some (.int .u32 z5):=HBk.out.at 5 (by simp)
    have d6:wr.cell? ⟨w.heap.size,6,none⟩=some (.int .u32 z6):=HBk.out.at 6 (by simp)
    have d7:wr.cell? ⟨w.heap.size,7,none⟩=some (.int .u32 z7):=HBk.out.at 7 (by simp)
    go_wp2
    refine wp_region_still_tail 3 (by kernel_rfl) (by kernel_rfl) ?_
    change wpStill _ _ wr.drew (fun a'=>wpList _ _ _ _ a' wr.drew) _ _
    replace d0:wr.drew.cell? ⟨w.heap.size,0,none⟩=some (.int .u32 z0):=d0
    replace d1:wr.drew.cell? ⟨w.heap.size,1,none⟩=some (.int .u32 z1):=d1
    replace d2:wr.drew.cell? ⟨w.heap.size,2,none⟩=some (.int .u32 z2):=d2
    replace d3:wr.drew.cell? ⟨w.heap.size,3,none⟩=some (.int .u32 z3):=d3
    replace d4:wr.drew.cell? ⟨w.heap.size,4,none⟩=some (.int .u32 z4):=d4
    replace d5:wr.drew.cell? ⟨w.heap.size,5,none⟩=some (.int .u32 z5):=d5
    replace d6:wr.drew.cell? ⟨w.heap.size,6,none⟩=some (.int .u32 z6):=d6
    replace d7:wr.drew.cell? ⟨w.heap.size,7,none⟩=some (.int .u32 z7):=d7
    have HB6:=Aside0.mk (HBk.out.drew 1)
    have HL6:=Aside0.mk (HBl.out.drew)
    have HCT6:=Aside0.mk (Kd.C_drew HCT.out)
    have HRD6:=Aside0.mk (Kd.C_drew HRD.out)
    replace HB6:Aside0 (Blk wr.drew w.heap.size 28 [z0,z1,z2,z3,z4,z5,z6,z7]):=HB6
    clear HBk HBl HCT HRD
    generalize wr.drew=w6 at d0 d1 d2 d3 d4 d5 d6 d7 HB6 HL6 HCT6 HRD6 ⊢
    simp only [List.take_succ_cons,List.take_zero,List.drop_succ_cons,List.drop_zero]
    repeat still_step
    refine wpStill_nil ?_
    clear d0 d1 d2 d3 d4 d5 d6 d7
    rcases Classical.em (cc=64) with rfl|hcc
    all_goals go_wp2_with (first
     | (go_at_call 83;refine (HMC.out _ HCT6.out).mono ?_;rintro e w9 ⟨rfl,hb9⟩)
     | (refine wpList_store_row rfl 28 (.tmp 3) (.tmp 34) rfl w.heap.size (List.map (Value.int .u32) [y0,y1,y2,y3,y4,y5,y6,y7]).toArray rfl rfl 28 _ (HB6.out.below hb9).out (blk_size8 rfl) (blk_same rfl) (blk_one _) ?_;refine gen_world (fun W=>Blk W w.heap.size 28 [y0,y1,y2,y3,y4,y5,y6,y7]∧Below w.heap.size w W∧Kd.C (Kd.int .u8) W A1 rest.length rest) ⟨(HB6.out.below hb9).row _,below_row (below_then HL6.out HL6.out.size hb9) (Nat.le_refl _) _,C_rowfar (Kd.C_below HRD6.out hb9) HF.out _⟩ ?_;rintro W10 ⟨h10,l10,r10⟩;have HB10:=Aside0.mk h10;have HL10:=Aside0.mk l10;have HR10:=Aside0.mk r10;clear h10 l10 r10 hb9))
    ·
     have hcd:=Kd.C_drop HR10.out h64 HCc.out
     rw [if_pos rfl] at hcd
     go_roundg k1
     case measure=>omega
     case rel=>exact ⟨A1,0,[y0,y1,y2,y3,y4,y5,y6,y7],rest.drop 64,by rw [List.length_drop],⟨by have:=HL.out;rw [List.length_drop];omega⟩,⟨by have:=HCc.out;rw [List.length_drop];omega⟩,HF,⟨hcd⟩,⟨rfl⟩,⟨by rw [HA.out,HBL.out]⟩,HB10,HL10⟩
    ·
     have hcd:=Kd.C_drop HR10.out h64 HCc.out
     rw [if_neg hcc] at hcd
     go_roundg k1
     case measure=>omega
     case rel=>exact ⟨_,cc - 64,[y0,y1,y2,y3,y4,y5,y6,y7],rest.drop 64,by rw [List.length_drop];rfl,⟨by have:=HL.out;rw [List.length_drop];omega⟩,⟨by have:=HCc.out;rw [List.length_drop];omega⟩,⟨fun ad he=>by
      cases A1 with
      | none=>simp at he
      | some a1 =>
       have:=HF.out a1 rfl
       simp at he
       rw [← he]
       exact this⟩,⟨hcd⟩,⟨rfl⟩,⟨by rw [HA.out,HBL.out]⟩,HB10,HL10⟩
   ·
    have hpz:¬ 0 < (rest.length:Int):=by omega
    have hr0:blocks gk st rest=st:=by
     cases gk with
     | zero=>rfl
     | succ k=>rw [blocks,if_neg hpos]
    have ha2:res=strOfNums (outB st):=by rw [HA.out,hr0]
    have hs:=blk_size8 H8.out
    obtain ⟨z0,z1,z2,z3,z4,z5,z6,z7,hz⟩:=list8 st H8.out
    subst hz
    have HA2:=Aside0.mk ha2
    clear ha2 hr0 HA HRD HF HCc HL
    go_wp2_with (refine wpList_load_row rfl 28 (.tmp 3) rfl w.heap.size rfl 28 _ (0,0) _ HBk.out.out Try.underlying28 rfl hs ?_)
    go_loopg [5,7,36] 8 (fun gg v5 _ v36 wr=>∃ (t:Nat) (acc:List Int),t+gg=8∧v36=.int .i64 (t:Int)∧Aside0 (Kd.R (Kd.int .u8) 5 wr w.heap.size (fun _=>True) v5 acc)∧Aside0 (acc.length=4 * t)∧Aside0 (res=strOfNums (acc ++ outB ([z0,z1,z2,z3,z4,z5,z6,z7].drop t)))∧Aside0 (Below w.heap.size w wr))
    case atStart=>exact ⟨0,[],rfl,rfl,⟨Kd.R_nil _ _ _ _ _⟩,⟨rfl⟩,HA2,HBl⟩
    case round =>
     clear HA2 HBk HBl H8 hpz hpos
     obtain ⟨t,acc,ht,rfl,HO,HLn,HA,HB⟩:=hrel
     by_cases hlt:t < 8
     ·
      obtain ⟨k2,rfl⟩:∃ m,gk=m+1:=⟨gk - 1,by omega⟩
      have hltz:(t:Int) < 8:=by omega
      have hix:=fun (W:World)=>index8 z0 z1 z2 z3 z4 z5 z6 z7 t hlt W
      have hdr:=outB_step [z0,z1,z2,z3,z4,z5,z6,z7] t hlt
      generalize [z0,z1,z2,z3,z4,z5,z6,z7].getD t 0=z at hix hdr
      have HD:=Aside0.mk hdr
      clear hdr
      obtain ⟨Ao,co,eo⟩:=Kd.R_slice HO.out
      subst eo
      go_wp2_with (first
       | ((with_reducible refine gate_dst (N:=51) rfl ?_);refine Kd.R_lit (Kd.int .u8) _ 5 ?hg (N:=51) ?hd (xs:=[z / 16777216 % 256,z / 65536 % 256,z / 256 % 256,z % 256]) (inner:=[.int .u8 (z / 16777216 % 256),.int .u8 (z / 65536 % 256),.int .u8 (z / 256 % 256),.int .u8 (z % 256)]) (ok:=fun _=>True) (okp:=fun _=>True) ?hr ?hp (fun _ hk=>hk) trivial (Below.refl _ _) (Nat.le_refl _) (by simp) ?_;(case hd=>rfl);(case hg=>rfl);(case hr=>first|(go_simp;done)|(go_simp;rfl));(case hp=>exact (Reps.one (show Kd.M (Kd.int .u8) _ _ _ (z / 16777216 % 256) [.int .u8 (z / 16777216 % 256)] from rfl) (Reps.one (show Kd.M (Kd.int .u8) _ _ _ (z / 65536 % 256) [.int .u8 (z / 65536 % 256)] from rfl) (Reps.one (show Kd.M (Kd.int .u8) _ _ _ (z / 256 % 256) [.int .u8 (z / 256 % 256)] from rfl) (Reps.one (show Kd.M (Kd.int .u8) _ _ _ (z % 256) [.int .u8 (z % 256)] from rfl) (Reps.none _ _))))));intro v1 w1 ho1 hb1 hg_ hnew_;clear hg_ hnew_;have n1_:=Aside0.mk (Kd.R_elder' HO.out (Kd.R_base ho1) hb1);have n2_:=Aside0.mk (Kd.R_lower (Kd.R_new' ho1 (Kd.R_lt HO.out)) (below_size HB.out));have n3_:=Aside0.mk (below_step HB.out hb1);clear HO HB;have HO:=n1_;have HO1:=n2_;have HB:=n3_;clear n1_ n2_ n3_ hb1 ho1;obtain ⟨A1,c1,e1⟩:=Kd.R_slice HO1.out;subst e1)
       | ((with_reducible refine gate_builtin (b:=.append) (xs:=#[.tmp 39,.tmp 51]) rfl ?_);at_builtin;refine Kd.R_append_rows (Kd.int .u8) (w0:=w) w.heap.size rfl (.tmp 39) (.tmp 51) 47 5 (.int .u8 0) 1 rfl Try.underlying47 info5 rfl (by decide) (by omega) _ acc [z / 16777216 % 256,z / 65536 % 256,z / 256 % 256,z % 256] _ _ _ (fun k_=>some k_≠(.slice A1 [z / 16777216 % 256,z / 65536 % 256,z / 256 % 256,z % 256].length c1:Value).ownBlock) (fun _=>False) rfl rfl ?aO ?aR (fun _ _ h=>h) (fun _ h=>h.elim) ?aF ?aB ?aS ?aL ?_;(case aR=>exact (Kd.R_reads' HO1.out).2.2);(case aB=>exact HB.out);(case aF=>exact (fun k_ hk=>Kd.fresh' (Kd.R_lt HO1.out) k_ hk));(case aO=>exact Kd.R_mono HO.out (fun _ hk=>hk.2));(case aS=>exact below_size HB.out);(case aL=>have:=HLn.out;simp;omega);intro v2 w2 ho2 hb2 hg2 hat2;have n1_:=Aside0.mk (Kd.R_mono ho2 (fun _ _=>trivial));have n2_:=Aside0.mk hb2;clear HO HO1 HB;have HO:=n1_;have HB:=n2_;clear n1_ n2_ ho2 hb2 hg2 hat2))
      go_roundg k2
      case measure=>omega
      case rel=>exact ⟨t+1,_,by omega,by go_num,HO,⟨by have:=HLn.out;simp;omega⟩,⟨by rw [HA.out,HD.out,List.append_assoc]⟩,HB⟩
     ·
      have hltz:¬ (t:Int) < 8:=by omega
      have h8:t=8:=by omega
      subst h8
      obtain ⟨Ao,co,eo⟩:=Kd.R_slice HO.out
      subst eo
      have hcv:=own_string (P:=Try.prog) Try.underlying47 Try.underlying5 Try.underlying9 (Kd.own_of_R HO.out)
      have hres:strOfNums acc=res:=by
       rw [HA.out,show outB ([z0,z1,z2,z3,z4,z5,z6,z7].drop 8)=[] from rfl,List.append_nil]
      rw [hres] at hcv
      clear hres
      go_wp2
      go_ret
      exact ⟨rfl,HB.out⟩
 go_region_law (first
  | (refine Kd.R_append_rows_step (Kd.int .u8) (w0:=w) w.heap.size (by rfl) (.tmp 14) (.tmp 18) 47 5 (.int .u8 0) 1 rfl Try.underlying47 info5 rfl (by decide) (by omega) (.slice (some ⟨W3.heap.size,0,none⟩) 0 0) [] pt A pt.length c (fun _=>True) (fun _=>False) rfl rfl R5.out (Kd.R_reads' H5.out.own).2.2 (fun _ _ h=>h) (fun _ h=>h.elim) (fun _ _=>trivial) B5.out B5.out.size (by simp;have:=HP.out;omega) ?_;intro v1 w4 ho4 hb4 hg4 hat4;have hw4:=blk_grown H5.out.blk hg4 (fun he=>hgw (Option.some.inj he));have k9b:w4.cell? ⟨g,9,none⟩=some (.int .i64 n):=by rw [blk_cell hw4];rfl)
  | (refine goes_ Try.func28 (by kernel_rfl) rfl #[.int .i64 n] (by rfl) rfl rfl (by (try simp only [List.map_toArray,List.map_cons,List.map_nil]);first|done|rfl) ?_;refine (sha_Pad.calls k n pad _ HN.out).mono ?_;rintro e w6 ⟨rfl,hb6⟩;refine ⟨_,rfl,?_⟩;have r6:=Aside0.mk (Kd.own_of_R (Kd.R_below ho4 hb6));have b6:=Aside0.mk (below_then hb4 hb4.size hb6);have s6:=hb6.size)
  | (refine step_append_str (w0:=w) w.heap.size (by rfl) (.tmp 19) (.tmp 24) 47 9 5 rfl Try.underlying47 Try.underlying9 info5 v1 ([] ++ pt) pad rfl rfl r6.out b6.out b6.out.size (by have:=HP.out;have:=HPAD.out;simp;omega) ?_;intro v2 w7 ho7 hb7 hg7))
 all_goals
  (try go_simp)
  rename_i J_ K_ hJ_ hK_
  refine hK_ _ _ (Met.intro (hJ_ _ _ ?_))
  (repeat apply Exists.intro)
  refine ⟨?rel,rfl⟩
  case rel =>
   have l3:=blk_lt HB3.out.out
   have q4:=blk_grown (blk_below HB3.out.out (below_alloc (Below.refl _ _) (.cells #[] 5)).drew:((W3.alloc (.cells #[] 5)).drew).heap[w.heap.size]?=_) hg4 (fun he=>by have:=Option.some.inj he;simp at this;omega)
   have q6:=blk_below q4 hb6
   have q7:=blk_grown q6 hg7 (own_ne r6.out q6 (by decide))
   exact ⟨⟨Kd.R_of_own ho7 (fun _ _=>trivial)⟩,⟨⟨q7⟩⟩,⟨hb7⟩⟩
end Go.Proofs.Ytelcaepenfjloaa.Print
/-! #### MaShaTop -/
/- sha.Sum: a new sum, written once, asked once. -/
namespace Go.Proofs.Ytelcaepenfjloaa.Print
open Go.RowKit Go.Proofs.YtelcaepenfjloaaW.PrintWords Go.Proofs.YtelcaepenfjloaaW.PrintLast Go.Proofs.YtelcaepenfjloaaW.PrintMore
set_option linter.unusedVariables false
set_option linter.unusedSimpArgs false
/-! ### The padding -/
def padL (n:Int):List Int:=[128] ++ List.replicate ((119 - n % 64) % 64).toNat 0 ++ [0,0,0,0,8 * n / 16777216 % 256,8 * n / 65536 % 256,8 * n / 256 % 256,8 * n % 256]
def padB (n:Int):ByteArray:=strOfNums (padL n)
theorem padL_length (n:Int) (h0:0≤n):(padL n).length=9+((119 - n % 64) % 64).toNat:=by
 simp [padL]
 omega
theorem padB_size (n:Int) (h0:0≤n):(padB n).size=9+((119 - n % 64) % 64).toNat:=by rw [padB,strOfNums_size,padL_length n h0]
theorem pad_step (k:Nat) (n:Int) (acc:List Int) (s:Int) (h0:0≤s) (h1:s≤56) (ha:acc.length < 140737488355328) :
  sha_Pad.l0 (k+1) n acc s=sha_Pad.l0 k n (acc ++ [(shr .u64 (IntKind.u64.wrap ((IntKind.u64.wrap n) * 8)) s) % 256]) (s - 8):=by
 have e:wrap64 (s - 8)=s - 8:=by unfold wrap64;omega
 simp only [sha_Pad.l0]
 rw [if_pos (by omega),if_pos h0,if_pos ha,e]
theorem u64_in (x:Int) (h0:0≤x) (h1:x < 18446744073709551616):IntKind.u64.wrap x=x:=by
 simp [IntKind.wrap,IntKind.bits,IntKind.signed]
 omega
theorem shr64 (x:Int) (j:Nat) (h:j≤64):shr .u64 x (j:Int)=x / 2 ^ j:=by
 unfold shr
 rw [show min (j:Int).toNat IntKind.u64.bits=j by show min (j:Int).toNat 64=j;omega]
theorem pad_f (k:Nat) (n:Int) (h0:0≤n) (h1:n≤65536):sha_Pad.f (k+11) n=some (padB n):=by
 have e1:Int.tmod n 64=n % 64:=Int.tmod_eq_emod_of_nonneg h0
 have e2:wrap64 (119 - n % 64)=119 - n % 64:=by unfold wrap64;omega
 have e3:Int.tmod (119 - n % 64) 64=(119 - n % 64) % 64:=Int.tmod_eq_emod_of_nonneg (by omega)
 unfold sha_Pad.f
 rw [if_neg (by omega),decide_eq_false (show ¬ n > 65536 by omega)]
 simp only [sha_Pad.j0]
 rw [if_neg (by simp),e1,e2,e3]
 simp only [Option.bind_some]
 rw [if_pos (by omega),if_pos (by simp;omega)]
 rw [pad_step _ _ _ _ (by omega) (by omega) (by simp;omega),pad_step _ _ _ _ (by omega) (by omega) (by simp;omega),pad_step _ _ _ _ (by omega) (by omega) (by simp;omega),pad_step _ _ _ _ (by omega) (by omega) (by simp;omega),
  pad_step _ _ _ _ (by omega) (by omega) (by simp;omega),pad_step _ _ _ _ (by omega) (by omega) (by simp;omega),pad_step _ _ _ _ (by omega) (by omega) (by simp;omega),pad_step _ _ _ _ (by omega) (by omega) (by simp;omega)]
 simp only [sha_Pad.l0]
 rw [if_neg (by omega)]
 unfold padB padL
 have w1:IntKind.u64.wrap n=n:=u64_in n h0 (by omega)
 have w2:IntKind.u64.wrap (n * 8)=n * 8:=u64_in _ (by omega) (by omega)
 rw [w1,w2]
 have s56:shr .u64 (n * 8) 56 % 256=0:=by rw [show (56:Int)=((56:Nat):Int) from rfl,shr64 _ _ (by omega)];omega
 have s48:shr .u64 (n * 8) (56 - 8) % 256=0:=by rw [show (56 - 8:Int)=((48:Nat):Int) from rfl,shr64 _ _ (by omega)];omega
 have s40:shr .u64 (n * 8) (56 - 8 - 8) % 256=0:=by rw [show (56 - 8 - 8:Int)=((40:Nat):Int) from rfl,shr64 _ _ (by omega)];omega
 have s32:shr .u64 (n * 8) (56 - 8 - 8 - 8) % 256=0:=by rw [show (56 - 8 - 8 - 8:Int)=((32:Nat):Int) from rfl,shr64 _ _ (by omega)];omega
 have s24:shr .u64 (n * 8) (56 - 8 - 8 - 8 - 8) % 256=8 * n / 16777216 % 256:=by rw [show (56 - 8 - 8 - 8 - 8:Int)=((24:Nat):Int) from rfl,shr64 _ _ (by omega)];omega
 have s16:shr .u64 (n * 8) (56 - 8 - 8 - 8 - 8 - 8) % 256=8 * n / 65536 % 256:=by rw [show (56 - 8 - 8 - 8 - 8 - 8:Int)=((16:Nat):Int) from rfl,shr64 _ _ (by omega)];omega
 have s8:shr .u64 (n * 8) (56 - 8 - 8 - 8 - 8 - 8 - 8) % 256=8 * n / 256 % 256:=by rw [show (56 - 8 - 8 - 8 - 8 - 8 - 8:Int)=((8:Nat):Int) from rfl,shr64 _ _ (by omega)];omega
 have s0:shr .u64 (n * 8) (56 - 8 - 8 - 8 - 8 - 8 - 8 - 8) % 256=8 * n % 256:=by rw [show (56 - 8 - 8 - 8 - 8 - 8 - 8 - 8:Int)=((0:Nat):Int) from rfl,shr64 _ _ (by omega)];omega
 rw [s56,s48,s40,s32,s24,s16,s8,s0]
 simp
/-! ### What was written -/
theorem hashGo_len:∀ (k:Nat) (st p:List Int) (s:ByteArray),s.size < k→p.length < 64→st.length=8 →
  (hashGo k st p s).1.length=8∧(hashGo k st p s).2.length < 64∧((hashGo k st p s).2.length:Nat) % 64=(p.length+s.size) % 64
 | 0,_,_,_,h,_,_=>by omega
 | k+1,st,p,s,h,hp,hs=>by
  have hl:(p ++ bytesOf (s.extract 0 (min (64 - p.length) s.size))).length=p.length+min (64 - p.length) s.size:=by
   rw [List.length_append,bytesOf_length]
   simp
  rw [hashGo]
  by_cases c:(p ++ bytesOf (s.extract 0 (min (64 - p.length) s.size))).length=64
  ·
   rw [if_pos c]
   have h2:(s.extract (min (64 - p.length) s.size) s.size).size=s.size - min (64 - p.length) s.size:=by simp
   obtain ⟨a,b,d⟩:=hashGo_len k (mixB st (p ++ bytesOf (s.extract 0 (min (64 - p.length) s.size)))) [] (s.extract (min (64 - p.length) s.size) s.size) (by omega) (by simp) (mixB_len _ _ hs)
   refine ⟨a,b,?_⟩
   rw [d,h2]
   simp
   omega
  ·
   rw [if_neg c]
   refine ⟨hs,?_,?_⟩
   ·
    show (p ++ _).length < 64
    omega
   ·
    show (p ++ _).length % 64=_
    rw [hl]
    omega
def shaSum (s:ByteArray):ByteArray:=strOfNums (outB (blocks 3 (hashGo (s.size+1) startS [] s).1 ((hashGo (s.size+1) startS [] s).2 ++ bytesOf (padB s.size))))
def sha_Sum.f (a0:ByteArray):Option ByteArray:=if a0.size≤65536 then some (shaSum a0) else none
set_option maxHeartbeats 800000 in
set_option maxRecDepth 100000 in
theorem sha_Sum.calls (a0:ByteArray) (r:ByteArray) (w:World) (h:sha_Sum.f a0=some r) :
  Calls Try.prog 26 #[.string a0] w fun e w'=>e=.returned (.string r)∧Below w.heap.size w w':=by
 unfold sha_Sum.f at h
 by_cases hs:a0.size≤65536
 ·
  rw [if_pos hs] at h
  have hr:=(Option.some.inj h).symm
  clear h
  have HR:=Aside0.mk hr
  have HS:=Aside0.mk hs
  have HN:=Aside0.mk (new_calls w)
  clear hr hs
  go_enter Try.func26,Try.ntmps26
  go_wp2_with (go_at_call 36;refine HN.out.mono ?_;rintro e w1 ⟨g,rfl,hb1,hg1,hw1⟩;have HW1:=Aside0.mk hw1;have HB1:=Aside0.mk hb1;clear hg1 hw1 hb1)
  go_wp2_with (go_at_call 37;refine (write_calls w.heap.size g startS [] _ 0 a0 _ HW1.out HB1.out.size (by simp) (by omega) (by have:=HS.out;omega)).mono ?_;rintro e w2 ⟨rfl,hb2,v2,hw2⟩;have HW2:=Aside0.mk hw2;have HB2:=Aside0.mk hb2;clear hw2 hb2)
  have HL:=Aside0.mk (hashGo_len (a0.size+1) startS [] a0 (by omega) (by simp) rfl)
  go_wp2_with (go_at_call 39;refine (hashSum_calls w.heap.size g 11 _ _ v2 _ (padB a0.size) _ HW2.out ?hB ?hp ?hn ?hpad ?hall).mono ?_;(case hB=>exact Nat.le_trans HB1.out.size HB2.out.size);(case hp=>exact HL.out.2.1);(case hn=>rw [Int.zero_add];exact pad_f 0 _ (by omega) (by have:=HS.out;omega));(case hpad=>rw [padB_size _ (by omega)];omega);(case hall=>rw [padB_size _ (by omega)];have:=HL.out.2.2;simp at this;omega);rintro e w3 ⟨rfl,hb3⟩)
  go_ret
  exact ⟨by rw [HR.out];rfl,(HB1.out.trans HB2.out).trans (hb3.mono (Nat.le_trans HB1.out.size HB2.out.size))⟩
 ·
  rw [if_neg hs] at h
  exact absurd h (by simp)
end Go.Proofs.Ytelcaepenfjloaa.Print
/-! #### Pr102 -/
namespace Go.Proofs.Ytelcaepenfjloaa.Print
open Go.RowKit Go.Proofs.YtelcaepenfjloaaW.PrintWords Go.Proofs.YtelcaepenfjloaaW.PrintLast Go.Proofs.YtelcaepenfjloaaW.PrintMore
attribute [local go_sem] max2_int min2_int max_two min_two max_three min_three max_four min_four
set_option linter.unusedVariables false
set_option linter.unusedSimpArgs false
/-! ### oct_Put: function 102 -/
mutual
def oct_Put.j0:Nat→Int→Int→Bool→Option (ByteArray×Int)
 | 0,_,_,_=>none
 | k+1,x0,x1,x8=>if x8=true then (some ((⟨#[]⟩:ByteArray),1)) else (if x0 < 0 then (some ((⟨#[]⟩:ByteArray),8)) else (if 0≤(wrap64 (8 * x1)) then (if (shr .i64 x0 (wrap64 (8 * x1)))=0 then (oct_Put.l0 k x0 ([]:List Int) (wrap64 (x1 - 1))) else (some ((⟨#[]⟩:ByteArray),8))) else (none)))
def oct_Put.l0:Nat→Int→List Int→Int→Option (ByteArray×Int)
 | 0,_,_,_=>none
 | k+1,x0,x6,x7=>if x7≥0 then (if 0≤(wrap64 (8 * x7)) then (if x6.length < 140737488355328 then (oct_Put.l0 k x0 (x6 ++ [(shr .i64 x0 (wrap64 (8 * x7))) % 256]) (wrap64 (x7 - 1))) else (none)) else (none)) else (some (strOfNums x6,0))
end
def oct_Put.f (k:Nat) (a0:Int) (a1:Int):Option (ByteArray×Int):=if a1 < 1 then (oct_Put.j0 k a0 a1 true) else (oct_Put.j0 k a0 a1 (decide (a1 > 7)))
theorem oct_Put.mono_l:∀ k,(∀ y0 y1 y2,LeO (oct_Put.j0 k y0 y1 y2) (oct_Put.j0 (k+1) y0 y1 y2))∧(∀ y0 y1 y2,LeO (oct_Put.l0 k y0 y1 y2) (oct_Put.l0 (k+1) y0 y1 y2))
 | 0=>⟨fun _ _ _ r h=>by simp [oct_Put.j0] at h,fun _ _ _ r h=>by simp [oct_Put.l0] at h⟩
 | k+1=>by
  obtain ⟨ih0,ih1⟩:=oct_Put.mono_l k
  refine ⟨?_,?_⟩
  ·
   intro y0 y1 y2
   unfold oct_Put.j0
   repeat' first
   | (with_reducible exact ih0 _ _ _)
   | (with_reducible exact ih1 _ _ _)
   | (with_reducible exact LeO.refl _)
   | (with_reducible exact LeO.none _)
   | (with_reducible refine LeO.ite ?_ ?_)
   | (with_reducible refine LeO.bind ?_ (fun _=>?_))
   | exact ih0 _ _ _
   | exact ih1 _ _ _
   | exact LeO.none _
   | refine LeO.ite ?_ ?_
   | refine LeO.bind ?_ (fun _=>?_)
  ·
   intro y0 y1 y2
   unfold oct_Put.l0
   repeat' first
   | (with_reducible exact ih0 _ _ _)
   | (with_reducible exact ih1 _ _ _)
   | (with_reducible exact LeO.refl _)
   | (with_reducible exact LeO.none _)
   | (with_reducible refine LeO.ite ?_ ?_)
   | (with_reducible refine LeO.bind ?_ (fun _=>?_))
   | exact ih0 _ _ _
   | exact ih1 _ _ _
   | exact LeO.none _
   | refine LeO.ite ?_ ?_
   | refine LeO.bind ?_ (fun _=>?_)
theorem oct_Put.mono:∀ a0 a1 k,LeO (oct_Put.f k a0 a1) (oct_Put.f (k+1) a0 a1):=by
 intro a0 a1 k
 obtain ⟨ih0,ih1⟩:=oct_Put.mono_l k
 unfold oct_Put.f
 repeat' first
   | (with_reducible exact ih0 _ _ _)
   | (with_reducible exact ih1 _ _ _)
   | (with_reducible exact LeO.refl _)
   | (with_reducible exact LeO.none _)
   | (with_reducible refine LeO.ite ?_ ?_)
   | (with_reducible refine LeO.bind ?_ (fun _=>?_))
   | exact ih0 _ _ _
   | exact ih1 _ _ _
   | exact LeO.none _
   | refine LeO.ite ?_ ?_
   | refine LeO.bind ?_ (fun _=>?_)
set_option maxHeartbeats 8000000 in
set_option maxRecDepth 100000 in
theorem oct_Put.calls (k:Nat) (a0:Int) (a1:Int) (r1:ByteArray) (r2:Int) (w:World) (h:oct_Put.f k a0 a1=some (r1,r2)) :
  Calls Try.prog 102 #[.int .i64 a0,.int .i64 a1] w fun e w'=>e=.returned (.tuple #[.string r1,.int .i64 r2])∧Below w.heap.size w w':=by
 have HB:=Aside0.mk (Below.refl w.heap.size w)
 have H:(if a1 < 1 then (oct_Put.j0 k a0 a1 true) else (oct_Put.j0 k a0 a1 (decide (a1 > 7))))=some (r1,r2):=h
 clear h
 have HC3:=Aside0.mk H
 clear H
 go_enter Try.func102,Try.ntmps102
 go_upto_region 1 with (fail)
 go_cut [8] (fun v8 wc=>∃ (kq:Nat) (x8_2:Bool),v8=.bool x8_2∧Aside0 (oct_Put.j0 kq a0 a1 x8_2=some (r1,r2))∧Aside0 (kq≤k)∧Aside0 (Below w.heap.size w wc))
 case first =>
  have H:=HC3.out
  clear HC3
  by_cases c4:a1 < 1
  ·
   rw [if_pos c4] at H
   have c4b0:decide (a1 < 1)=true:=decide_eq_true c4
   clear c4
   (first|rw [c4b0]|(simp only [i64_w,i32_w];rw [c4b0])|skip)
   have H':=Aside0.mk H
   clear H
   go_wp2
   go_meet
   case rel=>exact ⟨_,(true),(by first|rfl|(simp;done)|(simp [*];done)),H',⟨by first|omega|exact Nat.le_refl _⟩,⟨by repeat (first|(with_reducible first|exact HB.out|apply below_alloc|apply pw_below_drewN|apply below_drew1)|exact HB.out)⟩⟩
  ·
   rw [if_neg c4] at H
   have c4b0:decide (a1 < 1)=false:=decide_eq_false c4
   clear c4
   (first|rw [c4b0]|(simp only [i64_w,i32_w];rw [c4b0])|skip)
   have H':=Aside0.mk H
   clear H
   go_wp2
   go_meet
   case rel=>exact ⟨_,(decide (a1 > 7)),(by first|rfl|(simp;done)|(simp [*];done)),H',⟨by first|omega|exact Nat.le_refl _⟩,⟨by repeat (first|(with_reducible first|exact HB.out|apply below_alloc|apply pw_below_drewN|apply below_drew1)|exact HB.out)⟩⟩
 case rest =>
  clear HC3
  try clear c1
  try clear p2
  try clear c4
  try clear c4b0
  obtain ⟨kq,x8_2,rfl,HA,HJ2,HB⟩:=hcut
  cases kq with
  | zero=>exact absurd HA.out (by simp [oct_Put.j0])
  | succ kj2 =>
   have H:=HA.out
   clear HA
   simp only [oct_Put.j0] at H
   by_cases c5:x8_2=true
   ·
    subst c5
    have H1:(some ((⟨#[]⟩:ByteArray),1))=some (r1,r2):=by rw [if_pos rfl] at H;exact H
    clear H
    have H:=H1
    clear H1
    simp only [Option.some.injEq,Prod.mk.injEq] at H
    obtain ⟨rfl,rfl⟩:=H
    go_wp2
    go_ret2
    exact ⟨by first|rfl|(simp [errW_none,errW_some] <;> rfl)|(simp [*,errW_none,errW_some] <;> rfl),by repeat (first|(with_reducible first|exact HB.out|apply below_alloc|apply pw_below_drewN|apply below_drew1)|exact HB.out)⟩
   ·
    replace c5:=Bool.eq_false_iff.mpr c5
    subst c5
    have H1:(if a0 < 0 then (some ((⟨#[]⟩:ByteArray),8)) else (if 0≤(wrap64 (8 * a1)) then (if (shr .i64 a0 (wrap64 (8 * a1)))=0 then (oct_Put.l0 kj2 a0 ([]:List Int) (wrap64 (a1 - 1))) else (some ((⟨#[]⟩:ByteArray),8))) else (none)))=some (r1,r2):=by rw [if_neg (show ¬ (false=true) by decide)] at H;exact H
    clear H
    have H:=H1
    clear H1
    by_cases c6:a0 < 0
    ·
     rw [if_pos c6] at H
     have c6b0:decide (a0 < 0)=true:=decide_eq_true c6
     clear c6
     simp only [Option.some.injEq,Prod.mk.injEq] at H
     obtain ⟨rfl,rfl⟩:=H
     go_wp2
     go_ret2
     exact ⟨by first|rfl|(simp [errW_none,errW_some] <;> rfl)|(simp [*,errW_none,errW_some] <;> rfl),by repeat (first|(with_reducible first|exact HB.out|apply below_alloc|apply pw_below_drewN|apply below_drew1)|exact HB.out)⟩
    ·
     rw [if_neg c6] at H
     have c6b0:decide (a0 < 0)=false:=decide_eq_false c6
     clear c6
     obtain ⟨ji7,hji7⟩:∃ j_:Int,(wrap64 (8 * a1))=j_:=⟨_,rfl⟩
     replace H:(if 0≤(ji7) then (if (shr .i64 a0 (ji7))=0 then (oct_Put.l0 kj2 a0 ([]:List Int) (wrap64 (a1 - 1))) else (some ((⟨#[]⟩:ByteArray),8))) else (none))=some (r1,r2):=by first|(rw [hji7] at H;exact H)|(simp only [hji7] at H ⊢;exact H)
     have hji7w:(IntKind.i64.wrap (8 * a1))=ji7:=(i64_w _).trans hji7
     by_cases c8:0≤(ji7)
     ·
      rw [if_pos c8] at H
      have c8b0:=eq_true c8
      have c8b1:decide (0≤(ji7))=true:=decide_eq_true c8
      clear c8
      obtain ⟨ji9,hji9⟩:∃ j_:Int,(shr .i64 a0 (ji7))=j_:=⟨_,rfl⟩
      replace H:(if (ji9)=0 then (oct_Put.l0 kj2 a0 ([]:List Int) (wrap64 (a1 - 1))) else (some ((⟨#[]⟩:ByteArray),8)))=some (r1,r2):=by first|(rw [hji9] at H;exact H)|(simp only [hji9] at H ⊢;exact H)
      have hji9_:(a0 / 2 ^ min (ji7).toNat 64)=ji9:=hji9
      have hji9z:(ji7)≤64→(a0 / 2 ^ (ji7).toNat)=ji9:=shr_small hji9
      by_cases c10:(ji9)=0
      ·
       rw [if_pos c10] at H
       have c10b0:((ji9) == 0)=true:=beq_iff_eq.mpr c10
       have c10b1:((ji9) != 0)=false:=bne_eq_false_iff_eq.mpr c10
       clear c10
       have H':=Aside0.mk H
       clear H
       go_wp2
       go_loopg [6,7] kj2 (fun kq v6 v7 w'=>∃ (x6_2:List Int) (x7_2:Int),v7=.int .i64 x7_2∧Aside0 (oct_Put.l0 kq a0 x6_2 x7_2=some (r1,r2))∧Aside0 (kq≤kj2)∧Aside0 (Kd.R (Kd.int .u8) 5 w' w.heap.size (fun _=>True) v6 x6_2)∧Aside0 (Below w.heap.size w w'))
       case atStart=>exact ⟨(([]:List Int)),(wrap64 (a1 - 1)),(by first|rfl|(simp;done)|(simp [*];done)),H',⟨Nat.le_refl _⟩,⟨by first|exact Kd.R_nil _ _ _ _ _|exact Kd.N_nil _ _ _ _ _|exact Kd.V_nil _ _ _ _ _|exact Kd.Q_nil _ _ _ _ _|exact Kd.S_nil _ _ _ _ _⟩,⟨by repeat (first|(with_reducible first|exact HB.out|apply below_alloc|apply pw_below_drewN|apply below_drew1)|exact HB.out)⟩⟩
       case round =>
        clear H'
        try clear c1
        try clear p2
        try clear c4
        try clear c4b0
        try clear c5
        try clear c6
        try clear c6b0
        try clear p6
        try clear c8
        try clear c8b0
        try clear c8b1
        try clear c10
        try clear c10b0
        try clear c10b1
        try clear p2
        obtain ⟨x6_2,x7_2,rfl,HA,HK2,HO_6,HB⟩:=hrel
        cases gk with
        | zero=>exact absurd HA.out (by simp [oct_Put.l0])
        | succ k2 =>
         have H:=HA.out
         clear HA
         simp only [oct_Put.l0] at H
         by_cases c11:x7_2≥0
         ·
          rw [if_pos c11] at H
          have c11b0:decide (0≤x7_2)=true:=decide_eq_true c11
          clear c11
          obtain ⟨ji12,hji12⟩:∃ j_:Int,(wrap64 (8 * x7_2))=j_:=⟨_,rfl⟩
          replace H:(if 0≤(ji12) then (if x6_2.length < 140737488355328 then (oct_Put.l0 k2 a0 (x6_2 ++ [(shr .i64 a0 (ji12)) % 256]) (wrap64 (x7_2 - 1))) else (none)) else (none))=some (r1,r2):=by first|(rw [hji12] at H;exact H)|(simp only [hji12] at H ⊢;exact H)
          have hji12w:(IntKind.i64.wrap (8 * x7_2))=ji12:=(i64_w _).trans hji12
          by_cases c13:0≤(ji12)
          ·
           rw [if_pos c13] at H
           have c13b0:=eq_true c13
           have c13b1:decide (0≤(ji12))=true:=decide_eq_true c13
           clear c13
           obtain ⟨ji14,hji14⟩:∃ j_:Int,(shr .i64 a0 (ji12))=j_:=⟨_,rfl⟩
           replace H:(if x6_2.length < 140737488355328 then (oct_Put.l0 k2 a0 (x6_2 ++ [(ji14) % 256]) (wrap64 (x7_2 - 1))) else (none))=some (r1,r2):=by first|(rw [hji14] at H;exact H)|(simp only [hji14] at H ⊢;exact H)
           have hji14_:(a0 / 2 ^ min (ji12).toNat 64)=ji14:=hji14
           have hji14z:(ji12)≤64→(a0 / 2 ^ (ji12).toNat)=ji14:=shr_small hji14
           by_cases c15:x6_2.length < 140737488355328
           ·
            rw [if_pos c15] at H
            have LMc15:=Aside0.mk c15
            clear c15
            obtain ⟨y416,hy416⟩:∃ y_:List Int,y_=(x6_2 ++ [(ji14) % 256]):=⟨_,rfl⟩
            replace H:(oct_Put.l0 k2 a0 y416 (wrap64 (x7_2 - 1)))=some (r1,r2):=by first|(rw [hy416];with_reducible exact H)|(have H2_:=(Option.bind_some _ _).symm.trans H;rw [hy416];with_reducible exact H2_)|(have H2_:=(Option.bind_some _ _).symm.trans H;with_reducible exact H2_)|with_reducible exact H|(rw [hy416];exact H)|exact H
            have Ny416:=Aside0.mk hy416
            clear hy416
            have H':=Aside0.mk H
            clear H
            go_wp2_with (first|((with_reducible refine gate_builtin (b:=.append) (xs:=#[.tmp 31,.tmp 37]) rfl ?_);at_builtin;refine Kd.R_append (Kd.int .u8) (w0:=w) w.heap.size rfl (.tmp 31) (.tmp 37) 47 5 (.int .u8 0) 1 rfl Try.underlying47 info5 rfl (by decide) (by omega) u6 x6_2 ((ji14) % 256) [.int .u8 ((ji14) % 256)] (fun _=>True) (fun _=>False) rfl rfl ?aP (fun _ hk=>hk.elim) ?aF ?aO ?aB ?aS ?aL ?_;(case aP=>exact rfl);(case aB=>exact (by repeat (first|(with_reducible first|exact HB.out|apply below_alloc|apply pw_below_drewN|apply below_drew1)|exact HB.out)));(case aF=>exact (fun _ _=>trivial));(case aO=>exact (by (with_reducible repeat (first|apply Kd.R_alloc|apply Kd.R_drewN|apply Kd.R_drew));exact HO_6.out));(case aS=>exact (below_size (by repeat (first|(with_reducible first|exact HB.out|apply below_alloc|apply pw_below_drewN|apply below_drew1)|exact HB.out))));(case aL=>have:=LMc15.out;omega);intro v417 w16 ho hb hg hat;rw [← Ny416.out] at ho;have n0_:=Aside0.mk (hb);have n1_:=Aside0.mk (ho);clear HB;clear HO_6;have HB:=n0_;have HO418:=n1_;clear n0_ n1_;clear ho hb hg hat))
            go_roundg k2
            case measure=>have:=HJ2.out;have:=HK2.out;omega
            case rel=>exact ⟨(y416),(wrap64 (x7_2 - 1)),(by first|rfl|(simp;done)|(simp [*];done)),H',⟨by have:=HJ2.out;have:=HK2.out;omega⟩,⟨by (with_reducible repeat (first|apply Kd.R_alloc|apply Kd.R_drewN|apply Kd.R_drew));exact HO418.out⟩,⟨by repeat (first|(with_reducible first|exact HB.out|apply below_alloc|apply pw_below_drewN|apply below_drew1)|exact HB.out)⟩⟩
           ·
            rw [if_neg c15] at H
            exact absurd H (by simp)
          ·
           rw [if_neg c13] at H
           exact absurd H (by simp)
         ·
          rw [if_neg c11] at H
          have c11b0:decide (0≤x7_2)=false:=decide_eq_false c11
          clear c11
          simp only [Option.some.injEq,Prod.mk.injEq] at H
          obtain ⟨rfl,rfl⟩:=H
          have hcv17:=own_string (P:=Try.prog) Try.underlying47 Try.underlying5 Try.underlying9 (Kd.own_of_R HO_6.out)
          go_wp2
          go_ret2
          exact ⟨by first|rfl|(simp [errW_none,errW_some] <;> rfl)|(simp only [← hji7,← hji9];first|rfl|(simp [errW_none,errW_some] <;> rfl))|(simp [*,errW_none,errW_some] <;> rfl),by repeat (first|(with_reducible first|exact HB.out|apply below_alloc|apply pw_below_drewN|apply below_drew1)|exact HB.out)⟩
      ·
       rw [if_neg c10] at H
       have c10b0:((ji9) == 0)=false:=beq_eq_false_iff_ne.mpr c10
       have c10b1:((ji9) != 0)=true:=bne_iff_ne.mpr c10
       simp only [Option.some.injEq,Prod.mk.injEq] at H
       obtain ⟨rfl,rfl⟩:=H
       go_wp2
       go_ret2
       exact ⟨by first|rfl|(simp [errW_none,errW_some] <;> rfl)|(simp only [← hji7,← hji9];first|rfl|(simp [errW_none,errW_some] <;> rfl))|(simp [*,errW_none,errW_some] <;> rfl),by repeat (first|(with_reducible first|exact HB.out|apply below_alloc|apply pw_below_drewN|apply below_drew1)|exact HB.out)⟩
     ·
      rw [if_neg c8] at H
      exact absurd H (by simp)
end Go.Proofs.Ytelcaepenfjloaa.Print
/-! #### Pr64 -/
namespace Go.Proofs.Ytelcaepenfjloaa.Print
open Go.RowKit Go.Proofs.YtelcaepenfjloaaW.PrintWords Go.Proofs.YtelcaepenfjloaaW.PrintLast Go.Proofs.YtelcaepenfjloaaW.PrintMore
attribute [local go_sem] max2_int min2_int max_two min_two max_three min_three max_four min_four
set_option linter.unusedVariables false
set_option linter.unusedSimpArgs false
/-! ### prng_Block: function 64 -/
def prng_Block.f (k:Nat) (a0:ByteArray) (a1:Int):Option (ByteArray):=(oct_Put.f k a1 7).bind fun bt419=>(if bt419.2=0 then (if (a0.size:Int) > 64 then (some (⟨#[]⟩:ByteArray)) else ((some (([((a0.size:Int)) % 256]:List Int):List Int)).bind fun y421=>(if 1+(strOfNums y421).size≤9223372036854775807 then (if ((⟨#[2]⟩:ByteArray) ++ (strOfNums y421)).size+a0.size≤9223372036854775807 then (if (((⟨#[2]⟩:ByteArray) ++ (strOfNums y421)) ++ a0).size+bt419.1.size≤9223372036854775807 then ((sha_Sum.f ((((⟨#[2]⟩:ByteArray) ++ (strOfNums y421)) ++ a0) ++ bt419.1)).bind fun t424=>(some t424)) else (none)) else (none)) else (none)))) else (some (⟨#[]⟩:ByteArray)))
theorem prng_Block.mono:∀ a0 a1 k,LeO (prng_Block.f k a0 a1) (prng_Block.f (k+1) a0 a1):=by
 intro a0 a1 k
 unfold prng_Block.f
 repeat' first
   | (with_reducible exact oct_Put.mono _ _ _)
   | (with_reducible exact LeO.refl _)
   | (with_reducible exact LeO.none _)
   | (with_reducible refine LeO.ite ?_ ?_)
   | (with_reducible refine LeO.bind ?_ (fun _=>?_))
   | exact oct_Put.mono _ _ _
   | exact LeO.none _
   | refine LeO.ite ?_ ?_
   | refine LeO.bind ?_ (fun _=>?_)
set_option maxHeartbeats 8000000 in
set_option maxRecDepth 100000 in
theorem prng_Block.calls (k:Nat) (a0:ByteArray) (a1:Int) (r:ByteArray) (w:World) (h:prng_Block.f k a0 a1=some r) :
  Calls Try.prog 64 #[.string a0,.int .i64 a1] w fun e w'=>e=.returned (.string r)∧Below w.heap.size w w':=by
 have HB:=Aside0.mk (Below.refl w.heap.size w)
 have H:((oct_Put.f k a1 7).bind fun bt419=>(if bt419.2=0 then (if (a0.size:Int) > 64 then (some (⟨#[]⟩:ByteArray)) else ((some (([((a0.size:Int)) % 256]:List Int):List Int)).bind fun y421=>(if 1+(strOfNums y421).size≤9223372036854775807 then (if ((⟨#[2]⟩:ByteArray) ++ (strOfNums y421)).size+a0.size≤9223372036854775807 then (if (((⟨#[2]⟩:ByteArray) ++ (strOfNums y421)) ++ a0).size+bt419.1.size≤9223372036854775807 then ((sha_Sum.f ((((⟨#[2]⟩:ByteArray) ++ (strOfNums y421)) ++ a0) ++ bt419.1)).bind fun t424=>(some t424)) else (none)) else (none)) else (none)))) else (some (⟨#[]⟩:ByteArray))))=some r:=h
 clear h
 replace H:=Option.bind_eq_some_iff.mp H
 obtain ⟨⟨t419,t420⟩,A30,H⟩:=H
 replace H:(if t420=0 then (if (a0.size:Int) > 64 then (some (⟨#[]⟩:ByteArray)) else ((some (([((a0.size:Int)) % 256]:List Int):List Int)).bind fun y421=>(if 1+(strOfNums y421).size≤9223372036854775807 then (if ((⟨#[2]⟩:ByteArray) ++ (strOfNums y421)).size+a0.size≤9223372036854775807 then (if (((⟨#[2]⟩:ByteArray) ++ (strOfNums y421)) ++ a0).size+t419.size≤9223372036854775807 then ((sha_Sum.f ((((⟨#[2]⟩:ByteArray) ++ (strOfNums y421)) ++ a0) ++ t419)).bind fun t424=>(some t424)) else (none)) else (none)) else (none)))) else (some (⟨#[]⟩:ByteArray)))=some r:=H
 have A3:=Aside0.mk A30
 clear A30
 by_cases c4:t420=0
 ·
  rw [if_pos c4] at H
  have c4b0:(t420 == 0)=true:=beq_iff_eq.mpr c4
  have c4b1:(t420 != 0)=false:=bne_eq_false_iff_eq.mpr c4
  clear c4
  by_cases c5:(a0.size:Int) > 64
  ·
   rw [if_pos c5] at H
   have c5b0:decide (64 < (a0.size:Int))=true:=decide_eq_true c5
   have c5b1:decide (64 < a0.size)=true:=decide_eq_true (by omega)
   clear c5
   obtain rfl:=Option.some.inj H
   go_enter Try.func64,Try.ntmps64
   go_wp2_with (first|((with_reducible refine gate_callee (f:=102) rfl ?_);refine goesL_ (some 9) rfl rfl Try.func102 (by kernel_rfl) rfl #[.int .i64 a1,.int .i64 7] rfl (by (try simp only [List.map_toArray,List.map_cons,List.map_nil]);first|done|rfl|(simp only [List.length_drop,List.length_take];rfl)) ?_;(with_reducible refine (oct_Put.calls k a1 7 t419 t420 _ A3.out).mono ?_);rintro e w6 ⟨rfl,hb⟩;refine ⟨_,rfl,?_⟩;have n0_:=Aside0.mk (below_step (by repeat (first|(with_reducible first|exact HB.out|apply below_alloc|apply pw_below_drewN|apply below_drew1)|exact HB.out)) hb);clear HB;have HB:=n0_;clear n0_;(try clear hb);(try clear hb2);(try clear hk);(try clear hi)))
   go_ret
   exact ⟨by first|rfl|(simp [errW_none,errW_some] <;> rfl)|(simp [*,errW_none,errW_some] <;> rfl),by repeat (first|(with_reducible first|exact HB.out|apply below_alloc|apply pw_below_drewN|apply below_drew1)|exact HB.out)⟩
  ·
   rw [if_neg c5] at H
   have c5b0:decide (64 < (a0.size:Int))=false:=decide_eq_false c5
   have c5b1:decide (64 < a0.size)=false:=decide_eq_false (by omega)
   clear c5
   obtain ⟨y421,hy421⟩:∃ y_:List Int,y_=(([((a0.size:Int)) % 256]:List Int)):=⟨_,rfl⟩
   replace H:(if 1+(strOfNums y421).size≤9223372036854775807 then (if ((⟨#[2]⟩:ByteArray) ++ (strOfNums y421)).size+a0.size≤9223372036854775807 then (if (((⟨#[2]⟩:ByteArray) ++ (strOfNums y421)) ++ a0).size+t419.size≤9223372036854775807 then ((sha_Sum.f ((((⟨#[2]⟩:ByteArray) ++ (strOfNums y421)) ++ a0) ++ t419)).bind fun t424=>(some t424)) else (none)) else (none)) else (none))=some r:=by first|(rw [hy421];with_reducible exact H)|(have H2_:=(Option.bind_some _ _).symm.trans H;rw [hy421];with_reducible exact H2_)|(have H2_:=(Option.bind_some _ _).symm.trans H;with_reducible exact H2_)|with_reducible exact H|(rw [hy421];exact H)|exact H
   have Ny421:=Aside0.mk hy421
   clear hy421
   by_cases c7:1+(strOfNums y421).size≤9223372036854775807
   ·
    rw [if_pos c7] at H
    have c7b0:=eq_true c7
    have c7b1:decide (1+(strOfNums y421).size≤9223372036854775807)=true:=decide_eq_true c7
    try have c7b2:(9223372036854775807 < 1+(strOfNums y421).size)=False:=eq_false (Nat.not_lt.2 c7)
    by_cases c8:((⟨#[2]⟩:ByteArray) ++ (strOfNums y421)).size+a0.size≤9223372036854775807
    ·
     rw [if_pos c8] at H
     have c8b0:=eq_true c8
     have c8b1:decide (((⟨#[2]⟩:ByteArray) ++ (strOfNums y421)).size+a0.size≤9223372036854775807)=true:=decide_eq_true c8
     try have c8b2:(9223372036854775807 < ((⟨#[2]⟩:ByteArray) ++ (strOfNums y421)).size+a0.size)=False:=eq_false (Nat.not_lt.2 c8)
     by_cases c9:(((⟨#[2]⟩:ByteArray) ++ (strOfNums y421)) ++ a0).size+t419.size≤9223372036854775807
     ·
      rw [if_pos c9] at H
      have c9b0:=eq_true c9
      have c9b1:decide ((((⟨#[2]⟩:ByteArray) ++ (strOfNums y421)) ++ a0).size+t419.size≤9223372036854775807)=true:=decide_eq_true c9
      try have c9b2:(9223372036854775807 < (((⟨#[2]⟩:ByteArray) ++ (strOfNums y421)) ++ a0).size+t419.size)=False:=eq_false (Nat.not_lt.2 c9)
      replace H:=Option.bind_eq_some_iff.mp H
      obtain ⟨t424,A100,H⟩:=H
      replace H:(some t424)=some r:=H
      have A10:=Aside0.mk A100
      clear A100
      obtain rfl:=Option.some.inj H
      go_enter Try.func64,Try.ntmps64
      go_wp2_with (first|((with_reducible refine gate_callee (f:=102) rfl ?_);refine goesL_ (some 9) rfl rfl Try.func102 (by kernel_rfl) rfl #[.int .i64 a1,.int .i64 7] rfl (by (try simp only [List.map_toArray,List.map_cons,List.map_nil]);first|done|rfl|(simp only [List.length_drop,List.length_take];rfl)) ?_;(with_reducible refine (oct_Put.calls k a1 7 t419 t420 _ A3.out).mono ?_);rintro e w11 ⟨rfl,hb⟩;refine ⟨_,rfl,?_⟩;have n0_:=Aside0.mk (below_step (by repeat (first|(with_reducible first|exact HB.out|apply below_alloc|apply pw_below_drewN|apply below_drew1)|exact HB.out)) hb);clear HB;have HB:=n0_;clear n0_;(try clear hb);(try clear hb2);(try clear hk);(try clear hi))|((with_reducible refine gate_dst (N:=22) rfl ?_);(try (refine gate_guard (by rfl) ?_;dsimp only));refine Kd.R_lit (Kd.int .u8) _ 5 ?hg (N:=22) ?hd (xs:=([((a0.size:Int)) % 256]:List Int)) (inner:=[.int .u8 (((a0.size:Int)) % 256)]) (ok:=fun _=>True) (okp:=fun _=>True) ?hr ?hp (fun _ hk=>hk) trivial (Below.refl _ _) (Nat.le_refl _) (by simp) ?_;(case hd=>rfl);(case hg=>rfl);(case hr=>first|(go_simp;done)|(go_simp;rfl));(case hp=>exact (Reps.one (show Kd.M (Kd.int .u8) _ _ _ (((a0.size:Int)) % 256) [.int .u8 (((a0.size:Int)) % 256)] from rfl) (Reps.none _ _)));intro v422 w12 ho13 hb hg_ hnew_;clear hg_ hnew_;(first|rw [← Ny421.out] at ho13|(simp only [Int.reduceToNat] at ho13;rw [← Ny421.out] at ho13));have n0_:=Aside0.mk (Kd.R_lower ho13 (below_size (by repeat (first|(with_reducible first|exact HB.out|apply below_alloc|apply pw_below_drewN|apply below_drew1)|exact HB.out))));have n1_:=Aside0.mk (below_step (by repeat (first|(with_reducible first|exact HB.out|apply below_alloc|apply pw_below_drewN|apply below_drew1)|exact HB.out)) hb);clear HB;have HO423:=n0_;have HB:=n1_;clear n0_ n1_;clear hb ho13;have hcv14:=own_string (P:=Try.prog) Try.underlying47 Try.underlying5 Try.underlying9 (Kd.own_of_R HO423.out))|((with_reducible refine gate_callee (f:=26) rfl ?_);refine goesL_ (some 29) rfl rfl Try.func26 (by kernel_rfl) rfl #[.string ((((⟨#[2]⟩:ByteArray) ++ (strOfNums y421)) ++ a0) ++ t419)] rfl (by (try simp only [List.map_toArray,List.map_cons,List.map_nil]);first|done|rfl|(simp only [List.length_drop,List.length_take];rfl)) ?_;(with_reducible refine (sha_Sum.calls ((((⟨#[2]⟩:ByteArray) ++ (strOfNums y421)) ++ a0) ++ t419) t424 _ A10.out).mono ?_);rintro e w15 ⟨rfl,hb⟩;refine ⟨_,rfl,?_⟩;have n0_:=Aside0.mk (Kd.R_below (by (with_reducible repeat (first|apply Kd.R_alloc|apply Kd.R_drewN|apply Kd.R_drew));exact HO423.out) hb);have n1_:=Aside0.mk (below_step (by repeat (first|(with_reducible first|exact HB.out|apply below_alloc|apply pw_below_drewN|apply below_drew1)|exact HB.out)) hb);clear HO423;clear HB;have HO423:=n0_;have HB:=n1_;clear n0_ n1_;(try clear hb);(try clear hb2);(try clear hk);(try clear hi)))
      go_ret
      exact ⟨by first|rfl|(simp [errW_none,errW_some] <;> rfl)|(simp [*,errW_none,errW_some] <;> rfl),by repeat (first|(with_reducible first|exact HB.out|apply below_alloc|apply pw_below_drewN|apply below_drew1)|exact HB.out)⟩
     ·
      rw [if_neg c9] at H
      exact absurd H (by simp)
    ·
     rw [if_neg c8] at H
     exact absurd H (by simp)
   ·
    rw [if_neg c7] at H
    exact absurd H (by simp)
 ·
  rw [if_neg c4] at H
  have c4b0:(t420 == 0)=false:=beq_eq_false_iff_ne.mpr c4
  have c4b1:(t420 != 0)=true:=bne_iff_ne.mpr c4
  obtain rfl:=Option.some.inj H
  go_enter Try.func64,Try.ntmps64
  go_wp2_with (first|((with_reducible refine gate_callee (f:=102) rfl ?_);refine goesL_ (some 9) rfl rfl Try.func102 (by kernel_rfl) rfl #[.int .i64 a1,.int .i64 7] rfl (by (try simp only [List.map_toArray,List.map_cons,List.map_nil]);first|done|rfl|(simp only [List.length_drop,List.length_take];rfl)) ?_;(with_reducible refine (oct_Put.calls k a1 7 t419 t420 _ A3.out).mono ?_);rintro e w16 ⟨rfl,hb⟩;refine ⟨_,rfl,?_⟩;have n0_:=Aside0.mk (below_step (by repeat (first|(with_reducible first|exact HB.out|apply below_alloc|apply pw_below_drewN|apply below_drew1)|exact HB.out)) hb);clear HB;have HB:=n0_;clear n0_;(try clear hb);(try clear hb2);(try clear hk);(try clear hi)))
  go_ret
  exact ⟨by first|rfl|(simp [errW_none,errW_some] <;> rfl)|(simp [*,errW_none,errW_some] <;> rfl),by repeat (first|(with_reducible first|exact HB.out|apply below_alloc|apply pw_below_drewN|apply below_drew1)|exact HB.out)⟩
end Go.Proofs.Ytelcaepenfjloaa.Print
/-! #### MaWord -/
/- A generator's next word, at a number of words that is no further than the laws go. -/
namespace Go.Proofs.Ytelcaepenfjloaa.Print
open Go.RowKit Go.Proofs.YtelcaepenfjloaaW.PrintWords Go.Proofs.YtelcaepenfjloaaW.PrintLast Go.Proofs.YtelcaepenfjloaaW.PrintMore
set_option linter.unusedVariables false
set_option linter.unusedSimpArgs false
def wordPart (k:Nat) (used:Int) (b:ByteArray):Option Int :=
 if 4 * Int.tmod used 8+4≤(b.size:Int) then (oct_Get.f k (b.extract (4 * Int.tmod used 8).toNat (4 * Int.tmod used 8+4).toNat)).bind fun t=>some (t % 4294967296) else none
def wordBlock (k:Nat) (seed:ByteArray) (used:Int) (b:ByteArray):Option ByteArray :=
 if Int.tmod used 8=0 then prng_Block.f k seed (Int.tdiv used 8) else some b
def prng_Gen_Word.f (k:Nat) (s0_0:ByteArray) (s0_1:Int) (s0_2:ByteArray):Option (Int×ByteArray×Int×ByteArray) :=
 if 0≤s0_1∧s0_1≤1000000000 then (wordBlock k s0_0 s0_1 s0_2).bind fun b=>(wordPart k s0_1 b).bind fun x=>some (x,s0_0,s0_1+1,b) else none
theorem prng_Gen_Word.mono:∀ a0 a1 a2 k,LeO (prng_Gen_Word.f k a0 a1 a2) (prng_Gen_Word.f (k+1) a0 a1 a2):=by
 intro a0 a1 a2 k
 unfold prng_Gen_Word.f wordBlock wordPart
 repeat' first
  | (with_reducible exact prng_Block.mono _ _ _)
  | (with_reducible exact oct_Get.mono _ _)
  | (with_reducible exact LeO.refl _)
  | (with_reducible exact LeO.none _)
  | (with_reducible refine LeO.ite ?_ ?_)
  | (with_reducible refine LeO.bind ?_ (fun _=>?_))
set_option maxHeartbeats 8000000 in
set_option maxRecDepth 100000 in
theorem prng_Gen_Word.calls (k:Nat) (g:Nat) (s0_0:ByteArray) (s0_1:Int) (s0_2:ByteArray) (r1:Int) (r2:ByteArray) (r3:Int) (r4:ByteArray) (w0 w:World) (hI:IsS130 w0 w g s0_0 s0_1 s0_2) (hB:Below w0.heap.size w0 w) (h:prng_Gen_Word.f k s0_0 s0_1 s0_2=some (r1,r2,r3,r4)) :
  Calls Try.prog 67 #[.pointer (some ⟨g,0,none⟩)] w fun e w'=>e=.returned (.int .u32 r1)∧IsS130 w0 w' g r2 r3 r4∧Below w0.heap.size w0 w'∧KeepBut w w' g none:=by
 unfold prng_Gen_Word.f at h
 split at h
 case isFalse=>exact absurd h (by simp)
 rename_i hr
 obtain ⟨h0,h1⟩:=hr
 replace h:=Option.bind_eq_some_iff.mp h
 obtain ⟨b,hb,h⟩:=h
 replace h:=Option.bind_eq_some_iff.mp h
 obtain ⟨x,hx,h⟩:=h
 simp only [Option.some.injEq,Prod.mk.injEq] at h
 obtain ⟨rfl,rfl,rfl,rfl⟩:=h
 unfold wordPart at hx
 split at hx
 case isFalse=>exact absurd hx (by simp)
 rename_i hsz
 replace hx:=Option.bind_eq_some_iff.mp hx
 obtain ⟨t,ht,hx⟩:=hx
 obtain rfl:=Option.some.inj hx
 clear hx
 have m0:=Int.tmod_nonneg 8 h0
 have m1:=Int.tmod_lt_of_pos s0_1 (show (0:Int) < 8 by omega)
 generalize hat:Int.tmod s0_1 8=at_ at m0 m1 hsz ht
 have e1:wrap64 (s0_1+1)=s0_1+1:=by unfold wrap64;omega
 have e2:wrap64 (4 * at_)=4 * at_:=by unfold wrap64;omega
 have e3:wrap64 (4 * at_+4)=4 * at_+4:=by unfold wrap64;omega
 have HT:=Aside0.mk ht
 have HSZ:=Aside0.mk hsz
 have HX:=Aside0.mk hb
 have HAT:=Aside0.mk hat
 have HI0:=Aside0.mk hI
 have HB:=Aside0.mk hB
 have HM:=Aside0.mk (And.intro m0 m1)
 have HR:=Aside0.mk (And.intro h0 h1)
 clear ht hsz hb hI hB
 have d0:=cellS130_0 HI0.out.1
 have d1:=cellS130_1 HI0.out.1
 have d2:=cellS130_2 HI0.out.1
 have z0:=blk_frozen HI0.out.1 0
 have z1:=blk_frozen HI0.out.1 1
 have z2:=blk_frozen HI0.out.1 2
 have w2:IntKind.i64.wrap (4 * at_)=4 * at_:=IntWalk.i64_in _ (by omega)
 have w3:IntKind.i64.wrap (4 * at_+4)=4 * at_+4:=IntWalk.i64_in _ (by omega)
 have w1:IntKind.i64.wrap (s0_1+1)=s0_1+1:=IntWalk.i64_in _ (by omega)
 have W1:=Aside0.mk w1
 have W2:=Aside0.mk w2
 have W3:=Aside0.mk w3
 clear e1 e2 e3 w1 w2 w3
 go_enter Try.func67,Try.ntmps67
 go_upto_if 12 with fail
 go_cut [3] from 13 to 25 (fun v3 wc=>v3=.int .i64 at_∧Aside0 (IsS130 w0 wc g s0_0 s0_1 b)∧Aside0 (Below w0.heap.size w0 wc)∧Aside0 (KeepBut w wc g none))
 case first =>
  by_cases c:at_=0
  ·
   have hbk:prng_Block.f k s0_0 (Int.tdiv s0_1 8)=some b:=by
    have:=HX.out
    unfold wordBlock at this
    rw [if_pos (HAT.out.trans c)] at this
    exact this
   have q0:0≤Int.tdiv s0_1 8:=Int.tdiv_nonneg h0 (by omega)
   have q1:Int.tdiv s0_1 8≤1000000000:=by
    have:=Int.tdiv_eq_ediv_of_nonneg h0 (b:=8)
    omega
   have qw:IntKind.i64.wrap (Int.tdiv s0_1 8)=Int.tdiv s0_1 8:=IntWalk.i64_in _ (by omega)
   rw [← qw] at hbk
   have HBK:=Aside0.mk hbk
   clear hbk HX q0 q1 qw
   subst c
   go_wp2
   go_region_law (refine goes_ Try.func64 (by kernel_rfl) rfl #[.string s0_0,.int .i64 (IntKind.i64.wrap (Int.tdiv s0_1 8))] (by rfl) rfl rfl (by (try simp only [List.map_toArray,List.map_cons,List.map_nil]);first|done|rfl) ?_;refine (prng_Block.calls k s0_0 (IntKind.i64.wrap (Int.tdiv s0_1 8)) b _ HBK.out).mono ?_;rintro e w7 ⟨rfl,hb7⟩;refine ⟨_,rfl,?_⟩;have HB7:=Aside0.mk hb7;have HI7:=Aside0.mk (IsS130.below HI0.out.drew hb7);have dd2:=cellS130_2 HI7.out.1;have zz2:=blk_frozen HI7.out.1 2;clear hb7)
   all_goals
    go_wp2_with fail
    go_meet
    case rel=>exact ⟨rfl,⟨HI7.out.set_2 b⟩,⟨below_set (below_then (below_drew1 HB.out) (below_drew1 HB.out).size HB7.out) (IsS130.ge HI7.out)⟩,⟨KeepBut.set_ ((keep_drew (KeepBut.refl w g none)).trans (KeepBut.of_below HB7.out g none) (.inl rfl)) _ _⟩⟩
  ·
   have hbk:b=s0_2:=by
    have:=HX.out
    unfold wordBlock at this
    rw [if_neg (by rw [HAT.out];exact c)] at this
    exact (Option.some.inj this).symm
   subst hbk
   go_wp2
   go_meet
   case rel=>exact ⟨rfl,HI0,HB,⟨KeepBut.refl w g none⟩⟩
 case rest =>
  obtain ⟨rfl,HI1,HB1,HK1⟩:=hcut
  clear d0 d1 d2 z0 z1 z2 HI0 HB
  have d1:=cellS130_1 HI1.out.1
  have d2:=cellS130_2 HI1.out.1
  have z1:=blk_frozen HI1.out.1 1
  have z2:=blk_frozen HI1.out.1 2
  have w2:=W2.out
  have w3:=W3.out
  have b1:0≤4 * at_:=by have:=HM.out.1;omega
  have b2:4 * at_≤4 * at_+4:=by omega
  have b3:4 * at_+4≤(b.size:Int):=HSZ.out
  have b4:0≤4 * at_+4:=by omega
  go_wp2_with (go_at_call 106;refine (oct_Get.calls k _ t _ HT.out).mono ?_;rintro e w9 ⟨rfl,⟨nd,rfl⟩⟩)
  go_ret
  exact ⟨rfl,(HI1.out.set_1 (s0_1+1)).drewN nd,pw_below_drewN (below_set HB1.out (IsS130.ge HI1.out)) nd,keep_drewN (KeepBut.set_ HK1.out _ _) nd⟩
end Go.Proofs.Ytelcaepenfjloaa.Print
/-! #### Pr68 -/
namespace Go.Proofs.Ytelcaepenfjloaa.Print
open Go.RowKit Go.Proofs.YtelcaepenfjloaaW.PrintWords Go.Proofs.YtelcaepenfjloaaW.PrintLast Go.Proofs.YtelcaepenfjloaaW.PrintMore
attribute [local go_sem] max2_int min2_int max_two min_two max_three min_three max_four min_four
set_option linter.unusedVariables false
set_option linter.unusedSimpArgs false
/-! ### prng_Gen_Used: function 68 -/
def prng_Gen_Used.f (s0_0:ByteArray) (s0_1:Int) (s0_2:ByteArray):Option (Int×ByteArray×Int×ByteArray):=some (s0_1,s0_0,s0_1,s0_2)
set_option maxHeartbeats 8000000 in
set_option maxRecDepth 100000 in
theorem prng_Gen_Used.calls (g:Nat) (s0_0:ByteArray) (s0_1:Int) (s0_2:ByteArray) (r1:Int) (r2:ByteArray) (r3:Int) (r4:ByteArray) (w0 w:World) (hI:IsS130 w0 w g s0_0 s0_1 s0_2) (hB:Below w0.heap.size w0 w) (h:prng_Gen_Used.f s0_0 s0_1 s0_2=some (r1,r2,r3,r4)) :
  Calls Try.prog 68 #[.pointer (some ⟨g,0,none⟩)] w fun e w'=>e=.returned (.int .i64 r1)∧IsS130 w0 w' g r2 r3 r4∧Below w0.heap.size w0 w'∧KeepBut w w' g none:=by
 have HI0:=Aside0.mk hI
 have HK:=Aside0.mk (KeepBut.refl w g none)
 have HL:=Aside0.mk hB.size
 clear hI
 have HW0:=Aside0.mk hB.size
 have HB:=Aside0.mk hB
 clear hB
 have H:(some (s0_1,s0_0,s0_1,s0_2))=some (r1,r2,r3,r4):=h
 clear h
 simp only [Option.some.injEq,Prod.mk.injEq] at H
 obtain ⟨rfl,rfl,rfl,rfl⟩:=H
 obtain ⟨HGz2,hgz2⟩:=HI0.out
 have hcz2_0:=cellS130_0 HGz2
 have hcz2_1:=cellS130_1 HGz2
 have hcz2_2:=cellS130_2 HGz2
 have hfz2_0:=blk_frozen HGz2 0
 have hfz2_1:=blk_frozen HGz2 1
 have hfz2_2:=blk_frozen HGz2 2
 clear HGz2 hgz2
 go_enter Try.func68,Try.ntmps68
 go_wp2
 go_ret
 exact ⟨by first|rfl|(simp [errW_none,errW_some] <;> rfl)|(simp [*,errW_none,errW_some] <;> rfl),by repeat (first|(with_reducible first|exact HI0.out|apply IsS130.alloc|apply IsS130.drewN|apply IsS130.drew|apply IsS130.set_0|apply IsS130.set_1|apply IsS130.set_2)|exact HI0.out),by repeat (first|(with_reducible first|exact HB.out|apply below_alloc|apply pw_below_drewN|apply below_drew1|refine below_set ?_ (IsS130.ge HI0.out))|exact HB.out),by repeat (first|(with_reducible first|exact HK.out|apply KeepBut.set_|apply keep_drewN|apply keep_drew|apply keep_alloc)|exact HK.out)⟩
end Go.Proofs.Ytelcaepenfjloaa.Print
/-! #### Pr100 -/
namespace Go.Proofs.Ytelcaepenfjloaa.Print
open Go.RowKit Go.Proofs.YtelcaepenfjloaaW.PrintWords Go.Proofs.YtelcaepenfjloaaW.PrintLast Go.Proofs.YtelcaepenfjloaaW.PrintMore
attribute [local go_sem] max2_int min2_int max_two min_two max_three min_three max_four min_four
set_option linter.unusedVariables false
set_option linter.unusedSimpArgs false
/-! ### prng_may: function 100 -/
def prng_may.f (a0:Int):Option (Bool):=if a0≥1 then (some (decide (a0≤2147483647))) else (some false)
set_option maxHeartbeats 8000000 in
set_option maxRecDepth 100000 in
theorem prng_may.calls (a0:Int) (r:Bool) (w:World) (h:prng_may.f a0=some r) :
  Calls Try.prog 100 #[.int .i64 a0] w fun e w'=>e=.returned (.bool r)∧Drawn0 w w':=by
 have H:(if a0≥1 then (some (decide (a0≤2147483647))) else (some false))=some r:=h
 clear h
 by_cases c2:a0≥1
 ·
  rw [if_pos c2] at H
  have c2b0:decide (1≤a0)=true:=decide_eq_true c2
  clear c2
  obtain rfl:=Option.some.inj H
  go_enter Try.func100,Try.ntmps100
  go_wp2
  go_ret
  exact ⟨by first|rfl|(simp;done)|(simp [*];done),by repeat (first|exact Drawn0.refl _|apply Drawn0.step)⟩
 ·
  rw [if_neg c2] at H
  have c2b0:decide (1≤a0)=false:=decide_eq_false c2
  clear c2
  obtain rfl:=Option.some.inj H
  go_enter Try.func100,Try.ntmps100
  go_wp2
  go_ret
  exact ⟨by first|rfl|(simp;done)|(simp [*];done),by repeat (first|exact Drawn0.refl _|apply Drawn0.step)⟩
end Go.Proofs.Ytelcaepenfjloaa.Print
/-! #### Pr101 -/
namespace Go.Proofs.Ytelcaepenfjloaa.Print
open Go.RowKit Go.Proofs.YtelcaepenfjloaaW.PrintWords Go.Proofs.YtelcaepenfjloaaW.PrintLast Go.Proofs.YtelcaepenfjloaaW.PrintMore
attribute [local go_sem] max2_int min2_int max_two min_two max_three min_three max_four min_four
set_option linter.unusedVariables false
set_option linter.unusedSimpArgs false
/-! ### prng_bound: function 101 -/
def prng_bound.f (a0:Int):Option (Int):=if a0=0 then (none) else (some (wrap64 (4294967296 - ((4294967296:Int) % a0))))
set_option maxHeartbeats 8000000 in
set_option maxRecDepth 100000 in
theorem prng_bound.calls (a0:Int) (r:Int) (w:World) (h:prng_bound.f a0=some r) :
  Calls Try.prog 101 #[.int .i64 a0] w fun e w'=>e=.returned (.int .i64 r)∧Drawn0 w w':=by
 have H:(if a0=0 then (none) else (some (wrap64 (4294967296 - ((4294967296:Int) % a0)))))=some r:=h
 clear h
 by_cases c2:a0=0
 ·
  rw [if_pos c2] at H
  exact absurd H (by simp)
 ·
  rw [if_neg c2] at H
  have c2b0:(a0 == 0)=false:=beq_eq_false_iff_ne.mpr c2
  have c2b1:(a0 != 0)=true:=bne_iff_ne.mpr c2
  obtain rfl:=Option.some.inj H
  go_enter Try.func101,Try.ntmps101
  go_wp2
  go_ret
  exact ⟨by first|rfl|(simp;done)|(simp [*];done),by repeat (first|exact Drawn0.refl _|apply Drawn0.step)⟩
end Go.Proofs.Ytelcaepenfjloaa.Print
/-! #### Pr70 -/
namespace Go.Proofs.Ytelcaepenfjloaa.Print
open Go.RowKit Go.Proofs.YtelcaepenfjloaaW.PrintWords Go.Proofs.YtelcaepenfjloaaW.PrintLast Go.Proofs.YtelcaepenfjloaaW.PrintMore
attribute [local go_sem] max2_int min2_int max_two min_two max_three min_three max_four min_four
set_option linter.unusedVariables false
set_option linter.unusedSimpArgs false
/-! ### prng_Gen_Below: function 70 -/
def prng_Gen_Below.l0:Nat→Int→Int→Int→ByteArray→Int→ByteArray→Option (Int×ByteArray×Int×ByteArray)
 | 0,_,_,_,_,_,_=>none
 | k+1,x1,x5,x13,x1000,x1001,x1002=>if x13 < 8 then ((prng_Gen_Word.f k x1000 x1001 x1002).bind fun bt426=>((prng_bound.f x1).bind fun t430=>(if (wrap64 (bt426.1)) < t430 then (if x1=0 then (none) else (some (Int.tmod (wrap64 (bt426.1)) x1,bt426.2.1,bt426.2.2.1,bt426.2.2.2))) else (prng_Gen_Below.l0 k x1 (wrap64 (bt426.1)) (wrap64 (x13+1)) bt426.2.1 bt426.2.2.1 bt426.2.2.2)))) else (if x1=0 then (none) else (some (Int.tmod x5 x1,x1000,x1001,x1002)))
def prng_Gen_Below.f (k:Nat) (s0_0:ByteArray) (s0_1:Int) (s0_2:ByteArray) (a1:Int):Option (Int×ByteArray×Int×ByteArray):=(prng_may.f a1).bind fun t425=>(if t425=true then (prng_Gen_Below.l0 k a1 0 0 s0_0 s0_1 s0_2) else (some (0,s0_0,s0_1,s0_2)))
theorem prng_Gen_Below.mono_l:∀ k,(∀ y0 y1 y2 y3 y4 y5,LeO (prng_Gen_Below.l0 k y0 y1 y2 y3 y4 y5) (prng_Gen_Below.l0 (k+1) y0 y1 y2 y3 y4 y5))
 | 0=>fun _ _ _ _ _ _ r h=>by simp [prng_Gen_Below.l0] at h
 | k+1=>by
  have ih0:=prng_Gen_Below.mono_l k
  ·
   intro y0 y1 y2 y3 y4 y5
   unfold prng_Gen_Below.l0
   repeat' first
   | (with_reducible exact ih0 _ _ _ _ _ _)
   | (with_reducible exact prng_Gen_Word.mono _ _ _ _)
   | (with_reducible exact LeO.refl _)
   | (with_reducible exact LeO.none _)
   | (with_reducible refine LeO.ite ?_ ?_)
   | (with_reducible refine LeO.bind ?_ (fun _=>?_))
   | exact ih0 _ _ _ _ _ _
   | exact prng_Gen_Word.mono _ _ _ _
   | exact LeO.none _
   | refine LeO.ite ?_ ?_
   | refine LeO.bind ?_ (fun _=>?_)
theorem prng_Gen_Below.mono:∀ a0 a1 a2 a3 k,LeO (prng_Gen_Below.f k a0 a1 a2 a3) (prng_Gen_Below.f (k+1) a0 a1 a2 a3):=by
 intro a0 a1 a2 a3 k
 have ih0:=prng_Gen_Below.mono_l k
 unfold prng_Gen_Below.f
 repeat' first
   | (with_reducible exact ih0 _ _ _ _ _ _)
   | (with_reducible exact prng_Gen_Word.mono _ _ _ _)
   | (with_reducible exact LeO.refl _)
   | (with_reducible exact LeO.none _)
   | (with_reducible refine LeO.ite ?_ ?_)
   | (with_reducible refine LeO.bind ?_ (fun _=>?_))
   | exact ih0 _ _ _ _ _ _
   | exact prng_Gen_Word.mono _ _ _ _
   | exact LeO.none _
   | refine LeO.ite ?_ ?_
   | refine LeO.bind ?_ (fun _=>?_)
set_option maxHeartbeats 8000000 in
set_option maxRecDepth 100000 in
theorem prng_Gen_Below.calls (k:Nat) (g:Nat) (s0_0:ByteArray) (s0_1:Int) (s0_2:ByteArray) (a1:Int) (r1:Int) (r2:ByteArray) (r3:Int) (r4:ByteArray) (w0 w:World) (hI:IsS130 w0 w g s0_0 s0_1 s0_2) (hB:Below w0.heap.size w0 w) (h:prng_Gen_Below.f k s0_0 s0_1 s0_2 a1=some (r1,r2,r3,r4)) :
  Calls Try.prog 70 #[.pointer (some ⟨g,0,none⟩),.int .i64 a1] w fun e w'=>e=.returned (.int .i64 r1)∧IsS130 w0 w' g r2 r3 r4∧Below w0.heap.size w0 w'∧KeepBut w w' g none:=by
 have HI0:=Aside0.mk hI
 have HK:=Aside0.mk (KeepBut.refl w g none)
 have HL:=Aside0.mk hB.size
 clear hI
 have HW0:=Aside0.mk hB.size
 have HB:=Aside0.mk hB
 clear hB
 have H:((prng_may.f a1).bind fun t425=>(if t425=true then (prng_Gen_Below.l0 k a1 0 0 s0_0 s0_1 s0_2) else (some (0,s0_0,s0_1,s0_2))))=some (r1,r2,r3,r4):=h
 clear h
 replace H:=Option.bind_eq_some_iff.mp H
 obtain ⟨t425,A30,H⟩:=H
 replace H:(if t425=true then (prng_Gen_Below.l0 k a1 0 0 s0_0 s0_1 s0_2) else (some (0,s0_0,s0_1,s0_2)))=some (r1,r2,r3,r4):=H
 have A3:=Aside0.mk A30
 clear A30
 by_cases c4:t425=true
 ·
  subst c4
  have H1:(prng_Gen_Below.l0 k a1 0 0 s0_0 s0_1 s0_2)=some (r1,r2,r3,r4):=by rw [if_pos rfl] at H;exact H
  clear H
  have H:=H1
  clear H1
  have H':=Aside0.mk H
  clear H
  go_enter Try.func70,Try.ntmps70
  go_wp2_with (first|(go_at_call 100;(with_reducible refine (prng_may.calls a1 true _ A3.out).mono ?_);rintro e w' ⟨rfl,⟨nd,rfl⟩⟩))
  go_loopg [5,13] k (fun kq v5 v13 w'=>∃ (x5_1:Int) (x13_1:Int) (x1000_1:ByteArray) (x1001_1:Int) (x1002_1:ByteArray),v5=.int .i64 x5_1∧v13=.int .i64 x13_1∧Aside0 (prng_Gen_Below.l0 kq a1 x5_1 x13_1 x1000_1 x1001_1 x1002_1=some (r1,r2,r3,r4))∧Aside0 (kq≤k)∧Aside0 (IsS130 w0 w' g x1000_1 x1001_1 x1002_1)∧Aside0 (KeepBut w w' g none)∧Aside0 (Below w0.heap.size w0 w'))
  case atStart=>exact ⟨(0),(0),(s0_0),(s0_1),(s0_2),(by first|rfl|(simp;done)|(simp [*];done)),(by first|rfl|(simp;done)|(simp [*];done)),H',⟨Nat.le_refl _⟩,⟨by repeat (first|(with_reducible first|exact HI0.out|apply IsS130.alloc|apply IsS130.drewN|apply IsS130.drew|apply IsS130.set_0|apply IsS130.set_1|apply IsS130.set_2)|exact HI0.out)⟩,⟨by repeat (first|(with_reducible first|exact HK.out|apply KeepBut.set_|apply keep_drewN|apply keep_drew|apply keep_alloc)|exact HK.out)⟩,⟨by repeat (first|(with_reducible first|exact HB.out|apply below_alloc|apply pw_below_drewN|apply below_drew1|refine below_set ?_ (IsS130.ge HI0.out))|exact HB.out)⟩⟩
  case round =>
   clear H'
   try clear p2
   try clear c4
   obtain ⟨x5_1,x13_1,x1000_1,x1001_1,x1002_1,rfl,rfl,HA,HK1,HI0,HK,HB⟩:=hrel
   cases gk with
   | zero=>exact absurd HA.out (by simp [prng_Gen_Below.l0])
   | succ k1 =>
    have H:=HA.out
    clear HA
    simp only [prng_Gen_Below.l0] at H
    by_cases c5:x13_1 < 8
    ·
     rw [if_pos c5] at H
     have c5b0:decide (x13_1 < 8)=true:=decide_eq_true c5
     clear c5
     replace H:=Option.bind_eq_some_iff.mp H
     obtain ⟨⟨t426,t427,t428,t429⟩,A60,H⟩:=H
     replace H:((prng_bound.f a1).bind fun t430=>(if (wrap64 (t426)) < t430 then (if a1=0 then (none) else (some (Int.tmod (wrap64 (t426)) a1,t427,t428,t429))) else (prng_Gen_Below.l0 k1 a1 (wrap64 (t426)) (wrap64 (x13_1+1)) t427 t428 t429)))=some (r1,r2,r3,r4):=H
     have A6:=Aside0.mk A60
     clear A60
     replace H:=Option.bind_eq_some_iff.mp H
     obtain ⟨t430,A70,H⟩:=H
     replace H:(if (wrap64 (t426)) < t430 then (if a1=0 then (none) else (some (Int.tmod (wrap64 (t426)) a1,t427,t428,t429))) else (prng_Gen_Below.l0 k1 a1 (wrap64 (t426)) (wrap64 (x13_1+1)) t427 t428 t429))=some (r1,r2,r3,r4):=H
     have A7:=Aside0.mk A70
     clear A70
     by_cases c8:(wrap64 (t426)) < t430
     ·
      rw [if_pos c8] at H
      have c8b0:decide ((wrap64 (t426)) < t430)=true:=decide_eq_true c8
      clear c8
      by_cases c9:a1=0
      ·
       rw [if_pos c9] at H
       exact absurd H (by simp)
      ·
       rw [if_neg c9] at H
       have c9b0:(a1 == 0)=false:=beq_eq_false_iff_ne.mpr c9
       have c9b1:(a1 != 0)=true:=bne_iff_ne.mpr c9
       simp only [Option.some.injEq,Prod.mk.injEq] at H
       obtain ⟨rfl,rfl,rfl,rfl⟩:=H
       go_wp2_with (first|((with_reducible refine gate_callee (f:=67) rfl ?_);refine goesL_ (some 16) rfl rfl Try.func67 (by kernel_rfl) rfl #[.pointer (some ⟨g,0,none⟩)] rfl (by (try simp only [List.map_toArray,List.map_cons,List.map_nil]);first|done|rfl|(simp only [List.length_drop,List.length_take];rfl)) ?_;(with_reducible refine (prng_Gen_Word.calls k1 g x1000_1 x1001_1 x1002_1 t426 t427 t428 t429 w0 _ ?side1 ?side2 A6.out).mono ?_);(case side1=>repeat (first|(with_reducible first|exact HI0.out|apply IsS130.alloc|apply IsS130.drewN|apply IsS130.drew|apply IsS130.set_0|apply IsS130.set_1|apply IsS130.set_2)|exact HI0.out));(case side2=>repeat (first|(with_reducible first|exact HB.out|apply below_alloc|apply pw_below_drewN|apply below_drew1|refine below_set ?_ (IsS130.ge HI0.out))|exact HB.out));rintro e w10 ⟨rfl,hi,hb,hk⟩;refine ⟨_,rfl,?_⟩;have n0_:=Aside0.mk (KeepBut.trans (by repeat (first|(with_reducible first|exact HK.out|apply KeepBut.set_|apply keep_drewN|apply keep_drew|apply keep_alloc)|exact HK.out)) hk (.inl rfl));have n1_:=Aside0.mk (hb);have n2_:=Aside0.mk (hi);clear HK;clear HB;clear HI0;have HK:=n0_;have HB:=n1_;have HI0:=n2_;clear n0_ n1_ n2_;(try clear hb);(try clear hb2);(try clear hk);(try clear hi))|((with_reducible refine gate_callee (f:=101) rfl ?_);refine goesL_ (some 20) rfl rfl Try.func101 (by kernel_rfl) rfl #[.int .i64 a1] rfl (by (try simp only [List.map_toArray,List.map_cons,List.map_nil]);first|done|rfl|(simp only [List.length_drop,List.length_take];rfl)) ?_;(with_reducible refine (prng_bound.calls a1 t430 _ A7.out).mono ?_);rintro e w' ⟨rfl,⟨nd,rfl⟩⟩;refine ⟨_,rfl,?_⟩))
       go_ret
       exact ⟨by first|rfl|(simp [errW_none,errW_some] <;> rfl)|(simp [*,errW_none,errW_some] <;> rfl),by repeat (first|(with_reducible first|exact HI0.out|apply IsS130.alloc|apply IsS130.drewN|apply IsS130.drew|apply IsS130.set_0|apply IsS130.set_1|apply IsS130.set_2)|exact HI0.out),by repeat (first|(with_reducible first|exact HB.out|apply below_alloc|apply pw_below_drewN|apply below_drew1|refine below_set ?_ (IsS130.ge HI0.out))|exact HB.out),by repeat (first|(with_reducible first|exact HK.out|apply KeepBut.set_|apply keep_drewN|apply keep_drew|apply keep_alloc)|exact HK.out)⟩
     ·
      rw [if_neg c8] at H
      have c8b0:decide ((wrap64 (t426)) < t430)=false:=decide_eq_false c8
      clear c8
      have H':=Aside0.mk H
      clear H
      go_wp2_with (first|((with_reducible refine gate_callee (f:=67) rfl ?_);refine goesL_ (some 16) rfl rfl Try.func67 (by kernel_rfl) rfl #[.pointer (some ⟨g,0,none⟩)] rfl (by (try simp only [List.map_toArray,List.map_cons,List.map_nil]);first|done|rfl|(simp only [List.length_drop,List.length_take];rfl)) ?_;(with_reducible refine (prng_Gen_Word.calls k1 g x1000_1 x1001_1 x1002_1 t426 t427 t428 t429 w0 _ ?side1 ?side2 A6.out).mono ?_);(case side1=>repeat (first|(with_reducible first|exact HI0.out|apply IsS130.alloc|apply IsS130.drewN|apply IsS130.drew|apply IsS130.set_0|apply IsS130.set_1|apply IsS130.set_2)|exact HI0.out));(case side2=>repeat (first|(with_reducible first|exact HB.out|apply below_alloc|apply pw_below_drewN|apply below_drew1|refine below_set ?_ (IsS130.ge HI0.out))|exact HB.out));rintro e w11 ⟨rfl,hi,hb,hk⟩;refine ⟨_,rfl,?_⟩;have n0_:=Aside0.mk (KeepBut.trans (by repeat (first|(with_reducible first|exact HK.out|apply KeepBut.set_|apply keep_drewN|apply keep_drew|apply keep_alloc)|exact HK.out)) hk (.inl rfl));have n1_:=Aside0.mk (hb);have n2_:=Aside0.mk (hi);clear HK;clear HB;clear HI0;have HK:=n0_;have HB:=n1_;have HI0:=n2_;clear n0_ n1_ n2_;(try clear hb);(try clear hb2);(try clear hk);(try clear hi))|((with_reducible refine gate_callee (f:=101) rfl ?_);refine goesL_ (some 20) rfl rfl Try.func101 (by kernel_rfl) rfl #[.int .i64 a1] rfl (by (try simp only [List.map_toArray,List.map_cons,List.map_nil]);first|done|rfl|(simp only [List.length_drop,List.length_take];rfl)) ?_;(with_reducible refine (prng_bound.calls a1 t430 _ A7.out).mono ?_);rintro e w' ⟨rfl,⟨nd,rfl⟩⟩;refine ⟨_,rfl,?_⟩))
      go_roundg k1
      case measure=>have:=HK1.out;omega
      case rel=>exact ⟨(wrap64 (t426)),(wrap64 (x13_1+1)),(t427),(t428),(t429),(by first|rfl|(simp;done)|(simp [*];done)),(by first|rfl|(simp;done)|(simp [*];done)),H',⟨by have:=HK1.out;omega⟩,⟨by repeat (first|(with_reducible first|exact HI0.out|apply IsS130.alloc|apply IsS130.drewN|apply IsS130.drew|apply IsS130.set_0|apply IsS130.set_1|apply IsS130.set_2)|exact HI0.out)⟩,⟨by repeat (first|(with_reducible first|exact HK.out|apply KeepBut.set_|apply keep_drewN|apply keep_drew|apply keep_alloc)|exact HK.out)⟩,⟨by repeat (first|(with_reducible first|exact HB.out|apply below_alloc|apply pw_below_drewN|apply below_drew1|refine below_set ?_ (IsS130.ge HI0.out))|exact HB.out)⟩⟩
    ·
     rw [if_neg c5] at H
     have c5b0:decide (x13_1 < 8)=false:=decide_eq_false c5
     clear c5
     by_cases c12:a1=0
     ·
      rw [if_pos c12] at H
      exact absurd H (by simp)
     ·
      rw [if_neg c12] at H
      have c12b0:(a1 == 0)=false:=beq_eq_false_iff_ne.mpr c12
      have c12b1:(a1 != 0)=true:=bne_iff_ne.mpr c12
      simp only [Option.some.injEq,Prod.mk.injEq] at H
      obtain ⟨rfl,rfl,rfl,rfl⟩:=H
      go_wp2
      go_ret
      exact ⟨by first|rfl|(simp [errW_none,errW_some] <;> rfl)|(simp [*,errW_none,errW_some] <;> rfl),by repeat (first|(with_reducible first|exact HI0.out|apply IsS130.alloc|apply IsS130.drewN|apply IsS130.drew|apply IsS130.set_0|apply IsS130.set_1|apply IsS130.set_2)|exact HI0.out),by repeat (first|(with_reducible first|exact HB.out|apply below_alloc|apply pw_below_drewN|apply below_drew1|refine below_set ?_ (IsS130.ge HI0.out))|exact HB.out),by repeat (first|(with_reducible first|exact HK.out|apply KeepBut.set_|apply keep_drewN|apply keep_drew|apply keep_alloc)|exact HK.out)⟩
 ·
  replace c4:=Bool.eq_false_iff.mpr c4
  subst c4
  have H1:(some (0,s0_0,s0_1,s0_2))=some (r1,r2,r3,r4):=by rw [if_neg (show ¬ (false=true) by decide)] at H;exact H
  clear H
  have H:=H1
  clear H1
  simp only [Option.some.injEq,Prod.mk.injEq] at H
  obtain ⟨rfl,rfl,rfl,rfl⟩:=H
  go_enter Try.func70,Try.ntmps70
  go_wp2_with (first|(go_at_call 100;(with_reducible refine (prng_may.calls a1 false _ A3.out).mono ?_);rintro e w' ⟨rfl,⟨nd,rfl⟩⟩))
  go_ret
  exact ⟨by first|rfl|(simp [errW_none,errW_some] <;> rfl)|(simp [*,errW_none,errW_some] <;> rfl),by repeat (first|(with_reducible first|exact HI0.out|apply IsS130.alloc|apply IsS130.drewN|apply IsS130.drew|apply IsS130.set_0|apply IsS130.set_1|apply IsS130.set_2)|exact HI0.out),by repeat (first|(with_reducible first|exact HB.out|apply below_alloc|apply pw_below_drewN|apply below_drew1|refine below_set ?_ (IsS130.ge HI0.out))|exact HB.out),by repeat (first|(with_reducible first|exact HK.out|apply KeepBut.set_|apply keep_drewN|apply keep_drew|apply keep_alloc)|exact HK.out)⟩
end Go.Proofs.Ytelcaepenfjloaa.Print
/-! #### Pr119 -/
namespace Go.Proofs.Ytelcaepenfjloaa.Print
open Go.RowKit Go.Proofs.YtelcaepenfjloaaW.PrintWords Go.Proofs.YtelcaepenfjloaaW.PrintLast Go.Proofs.YtelcaepenfjloaaW.PrintMore
attribute [local go_sem] max2_int min2_int max_two min_two max_three min_three max_four min_four
set_option linter.unusedVariables false
set_option linter.unusedSimpArgs false
/-! ### mosaicref02_power: function 119 -/
def mosaicref02_power.l0:Nat→Int→Int→Int→Option (Int)
 | 0,_,_,_=>none
 | k+1,x0,x3,x4=>if x4 < x0 then (mosaicref02_power.l0 k x0 (wrap64 (x3 * 256)) (wrap64 (x4+1))) else (some x3)
def mosaicref02_power.f (k:Nat) (a0:Int):Option (Int):=mosaicref02_power.l0 k a0 1 0
theorem mosaicref02_power.mono_l:∀ k,(∀ y0 y1 y2,LeO (mosaicref02_power.l0 k y0 y1 y2) (mosaicref02_power.l0 (k+1) y0 y1 y2))
 | 0=>fun _ _ _ r h=>by simp [mosaicref02_power.l0] at h
 | k+1=>by
  have ih0:=mosaicref02_power.mono_l k
  ·
   intro y0 y1 y2
   unfold mosaicref02_power.l0
   repeat' first
   | (with_reducible exact ih0 _ _ _)
   | (with_reducible exact LeO.refl _)
   | (with_reducible exact LeO.none _)
   | (with_reducible refine LeO.ite ?_ ?_)
   | (with_reducible refine LeO.bind ?_ (fun _=>?_))
   | exact ih0 _ _ _
   | exact LeO.none _
   | refine LeO.ite ?_ ?_
   | refine LeO.bind ?_ (fun _=>?_)
theorem mosaicref02_power.mono:∀ a0 k,LeO (mosaicref02_power.f k a0) (mosaicref02_power.f (k+1) a0):=by
 intro a0 k
 have ih0:=mosaicref02_power.mono_l k
 unfold mosaicref02_power.f
 repeat' first
   | (with_reducible exact ih0 _ _ _)
   | (with_reducible exact LeO.refl _)
   | (with_reducible exact LeO.none _)
   | (with_reducible refine LeO.ite ?_ ?_)
   | (with_reducible refine LeO.bind ?_ (fun _=>?_))
   | exact ih0 _ _ _
   | exact LeO.none _
   | refine LeO.ite ?_ ?_
   | refine LeO.bind ?_ (fun _=>?_)
set_option maxHeartbeats 8000000 in
set_option maxRecDepth 100000 in
theorem mosaicref02_power.calls (k:Nat) (a0:Int) (r:Int) (w:World) (h:mosaicref02_power.f k a0=some r) :
  Calls Try.prog 119 #[.int .i64 a0] w fun e w'=>e=.returned (.int .i64 r)∧Drawn0 w w':=by
 have H:(mosaicref02_power.l0 k a0 1 0)=some r:=h
 clear h
 have H':=Aside0.mk H
 clear H
 go_enter Try.func119,Try.ntmps119
 go_wp2
 go_loopg [3,4] k (fun kq v3 v4 w'=>∃ (x3_1:Int) (x4_1:Int),v3=.int .i64 x3_1∧v4=.int .i64 x4_1∧Aside0 (mosaicref02_power.l0 kq a0 x3_1 x4_1=some r)∧Aside0 (kq≤k)∧Drawn0 w w')
 case atStart=>exact ⟨(1),(0),(by first|rfl|(simp;done)|(simp [*];done)),(by first|rfl|(simp;done)|(simp [*];done)),H',⟨Nat.le_refl _⟩,by repeat (first|exact Drawn0.refl _|apply Drawn0.step)⟩
 case round =>
  clear H'
  try clear c1
  obtain ⟨x3_1,x4_1,rfl,rfl,HA,HK1,⟨m1,rfl⟩⟩:=hrel
  cases gk with
  | zero=>exact absurd HA.out (by simp [mosaicref02_power.l0])
  | succ k1 =>
   have H:=HA.out
   clear HA
   simp only [mosaicref02_power.l0] at H
   by_cases c2:x4_1 < a0
   ·
    rw [if_pos c2] at H
    have c2b0:decide (x4_1 < a0)=true:=decide_eq_true c2
    clear c2
    have H':=Aside0.mk H
    clear H
    go_wp2
    go_roundg k1
    case measure=>have:=HK1.out;omega
    case rel=>exact ⟨(wrap64 (x3_1 * 256)),(wrap64 (x4_1+1)),(by first|rfl|(simp;done)|(simp [*];done)),(by first|rfl|(simp;done)|(simp [*];done)),H',⟨by have:=HK1.out;omega⟩,by repeat (first|exact Drawn0.refl _|apply Drawn0.step)⟩
   ·
    rw [if_neg c2] at H
    have c2b0:decide (x4_1 < a0)=false:=decide_eq_false c2
    clear c2
    obtain rfl:=Option.some.inj H
    go_wp2
    go_ret
    exact ⟨by first|rfl|(simp;done)|(simp [*];done),by repeat (first|exact Drawn0.refl _|apply Drawn0.step)⟩
end Go.Proofs.Ytelcaepenfjloaa.Print
/-! #### Pr103 -/
namespace Go.Proofs.Ytelcaepenfjloaa.Print
open Go.RowKit Go.Proofs.YtelcaepenfjloaaW.PrintWords Go.Proofs.YtelcaepenfjloaaW.PrintLast Go.Proofs.YtelcaepenfjloaaW.PrintMore
attribute [local go_sem] max2_int min2_int max_two min_two max_three min_three max_four min_four
set_option linter.unusedVariables false
set_option linter.unusedSimpArgs false
/-! ### mosaicref02_Put: function 103 -/
mutual
def mosaicref02_Put.j0:Nat→Int→Int→Bool→Option (ByteArray×Int)
 | 0,_,_,_=>none
 | k+1,x0,x1,x13=>if x13=true then (some ((⟨#[]⟩:ByteArray),1)) else (if x0 < 0 then (mosaicref02_Put.j1 k x0 x1 true) else ((mosaicref02_power.f k x1).bind fun t472=>(mosaicref02_Put.j1 k x0 x1 (decide (x0≥t472)))))
def mosaicref02_Put.j1:Nat→Int→Int→Bool→Option (ByteArray×Int)
 | 0,_,_,_=>none
 | k+1,x0,x1,x21=>if x21=true then (some ((⟨#[]⟩:ByteArray),8)) else (mosaicref02_Put.l0 k x0 ([]:List Int) (wrap64 (x1 - 1)))
def mosaicref02_Put.l0:Nat→Int→List Int→Int→Option (ByteArray×Int)
 | 0,_,_,_=>none
 | k+1,x0,x6,x7=>if x7≥0 then ((mosaicref02_power.f k x7).bind fun t473=>(if t473=0 then (none) else (if x6.length < 140737488355328 then (mosaicref02_Put.l0 k x0 (x6 ++ [(Int.tmod (wrap64 (Int.tdiv x0 t473)) 256) % 256]) (wrap64 (x7 - 1))) else (none)))) else (some (strOfNums x6,0))
end
def mosaicref02_Put.f (k:Nat) (a0:Int) (a1:Int):Option (ByteArray×Int):=if a1 < 1 then (mosaicref02_Put.j0 k a0 a1 true) else (mosaicref02_Put.j0 k a0 a1 (decide (a1 > 7)))
theorem mosaicref02_Put.mono_l:∀ k,(∀ y0 y1 y2,LeO (mosaicref02_Put.j0 k y0 y1 y2) (mosaicref02_Put.j0 (k+1) y0 y1 y2))∧(∀ y0 y1 y2,LeO (mosaicref02_Put.j1 k y0 y1 y2) (mosaicref02_Put.j1 (k+1) y0 y1 y2))∧(∀ y0 y1 y2,LeO (mosaicref02_Put.l0 k y0 y1 y2) (mosaicref02_Put.l0 (k+1) y0 y1 y2))
 | 0=>⟨fun _ _ _ r h=>by simp [mosaicref02_Put.j0] at h,fun _ _ _ r h=>by simp [mosaicref02_Put.j1] at h,fun _ _ _ r h=>by simp [mosaicref02_Put.l0] at h⟩
 | k+1=>by
  obtain ⟨ih0,ih1,ih2⟩:=mosaicref02_Put.mono_l k
  refine ⟨?_,?_,?_⟩
  ·
   intro y0 y1 y2
   unfold mosaicref02_Put.j0
   repeat' first
   | (with_reducible exact ih0 _ _ _)
   | (with_reducible exact ih1 _ _ _)
   | (with_reducible exact ih2 _ _ _)
   | (with_reducible exact mosaicref02_power.mono _ _)
   | (with_reducible exact LeO.refl _)
   | (with_reducible exact LeO.none _)
   | (with_reducible refine LeO.ite ?_ ?_)
   | (with_reducible refine LeO.bind ?_ (fun _=>?_))
   | exact ih0 _ _ _
   | exact ih1 _ _ _
   | exact ih2 _ _ _
   | exact mosaicref02_power.mono _ _
   | exact LeO.none _
   | refine LeO.ite ?_ ?_
   | refine LeO.bind ?_ (fun _=>?_)
  ·
   intro y0 y1 y2
   unfold mosaicref02_Put.j1
   repeat' first
   | (with_reducible exact ih0 _ _ _)
   | (with_reducible exact ih1 _ _ _)
   | (with_reducible exact ih2 _ _ _)
   | (with_reducible exact mosaicref02_power.mono _ _)
   | (with_reducible exact LeO.refl _)
   | (with_reducible exact LeO.none _)
   | (with_reducible refine LeO.ite ?_ ?_)
   | (with_reducible refine LeO.bind ?_ (fun _=>?_))
   | exact ih0 _ _ _
   | exact ih1 _ _ _
   | exact ih2 _ _ _
   | exact mosaicref02_power.mono _ _
   | exact LeO.none _
   | refine LeO.ite ?_ ?_
   | refine LeO.bind ?_ (fun _=>?_)
  ·
   intro y0 y1 y2
   unfold mosaicref02_Put.l0
   repeat' first
   | (with_reducible exact ih0 _ _ _)
   | (with_reducible exact ih1 _ _ _)
   | (with_reducible exact ih2 _ _ _)
   | (with_reducible exact mosaicref02_power.mono _ _)
   | (with_reducible exact LeO.refl _)
   | (with_reducible exact LeO.none _)
   | (with_reducible refine LeO.ite ?_ ?_)
   | (with_reducible refine LeO.bind ?_ (fun _=>?_))
   | exact ih0 _ _ _
   | exact ih1 _ _ _
   | exact ih2 _ _ _
   | exact mosaicref02_power.mono _ _
   | exact LeO.none _
   | refine LeO.ite ?_ ?_
   | refine LeO.bind ?_ (fun _=>?_)
theorem mosaicref02_Put.mono:∀ a0 a1 k,LeO (mosaicref02_Put.f k a0 a1) (mosaicref02_Put.f (k+1) a0 a1):=by
 intro a0 a1 k
 obtain ⟨ih0,ih1,ih2⟩:=mosaicref02_Put.mono_l k
 unfold mosaicref02_Put.f
 repeat' first
   | (with_reducible exact ih0 _ _ _)
   | (with_reducible exact ih1 _ _ _)
   | (with_reducible exact ih2 _ _ _)
   | (with_reducible exact mosaicref02_power.mono _ _)
   | (with_reducible exact LeO.refl _)
   | (with_reducible exact LeO.none _)
   | (with_reducible refine LeO.ite ?_ ?_)
   | (with_reducible refine LeO.bind ?_ (fun _=>?_))
   | exact ih0 _ _ _
   | exact ih1 _ _ _
   | exact ih2 _ _ _
   | exact mosaicref02_power.mono _ _
   | exact LeO.none _
   | refine LeO.ite ?_ ?_
   | refine LeO.bind ?_ (fun _=>?_)
set_option maxHeartbeats 8000000 in
set_option maxRecDepth 100000 in
theorem mosaicref02_Put.calls (k:Nat) (a0:Int) (a1:Int) (r1:ByteArray) (r2:Int) (w:World) (h:mosaicref02_Put.f k a0 a1=some (r1,r2)) :
  Calls Try.prog 103 #[.int .i64 a0,.int .i64 a1] w fun e w'=>e=.returned (.tuple #[.string r1,.int .i64 r2])∧Below w.heap.size w w':=by
 have HB:=Aside0.mk (Below.refl w.heap.size w)
 have H:(if a1 < 1 then (mosaicref02_Put.j0 k a0 a1 true) else (mosaicref02_Put.j0 k a0 a1 (decide (a1 > 7))))=some (r1,r2):=h
 clear h
 have HC3:=Aside0.mk H
 clear H
 go_enter Try.func103,Try.ntmps103
 go_upto_region 1 with (fail)
 go_cut [13] (fun v13 wc=>∃ (kq:Nat) (x13_2:Bool),v13=.bool x13_2∧Aside0 (mosaicref02_Put.j0 kq a0 a1 x13_2=some (r1,r2))∧Aside0 (kq≤k)∧Aside0 (Below w.heap.size w wc))
 case first =>
  have H:=HC3.out
  clear HC3
  by_cases c4:a1 < 1
  ·
   rw [if_pos c4] at H
   have c4b0:decide (a1 < 1)=true:=decide_eq_true c4
   clear c4
   (first|rw [c4b0]|(simp only [i64_w,i32_w];rw [c4b0])|skip)
   have H':=Aside0.mk H
   clear H
   go_wp2
   go_meet
   case rel=>exact ⟨_,(true),(by first|rfl|(simp;done)|(simp [*];done)),H',⟨by first|omega|exact Nat.le_refl _⟩,⟨by repeat (first|(with_reducible first|exact HB.out|apply below_alloc|apply pw_below_drewN|apply below_drew1)|exact HB.out)⟩⟩
  ·
   rw [if_neg c4] at H
   have c4b0:decide (a1 < 1)=false:=decide_eq_false c4
   clear c4
   (first|rw [c4b0]|(simp only [i64_w,i32_w];rw [c4b0])|skip)
   have H':=Aside0.mk H
   clear H
   go_wp2
   go_meet
   case rel=>exact ⟨_,(decide (a1 > 7)),(by first|rfl|(simp;done)|(simp [*];done)),H',⟨by first|omega|exact Nat.le_refl _⟩,⟨by repeat (first|(with_reducible first|exact HB.out|apply below_alloc|apply pw_below_drewN|apply below_drew1)|exact HB.out)⟩⟩
 case rest =>
  clear HC3
  try clear c1
  try clear p2
  try clear c4
  try clear c4b0
  obtain ⟨kq,x13_2,rfl,HA,HJ2,HB⟩:=hcut
  cases kq with
  | zero=>exact absurd HA.out (by simp [mosaicref02_Put.j0])
  | succ kj2 =>
   have H:=HA.out
   clear HA
   simp only [mosaicref02_Put.j0] at H
   by_cases c5:x13_2=true
   ·
    subst c5
    have H1:(some ((⟨#[]⟩:ByteArray),1))=some (r1,r2):=by rw [if_pos rfl] at H;exact H
    clear H
    have H:=H1
    clear H1
    simp only [Option.some.injEq,Prod.mk.injEq] at H
    obtain ⟨rfl,rfl⟩:=H
    go_wp2
    go_ret2
    exact ⟨by first|rfl|(simp [errW_none,errW_some] <;> rfl)|(simp [*,errW_none,errW_some] <;> rfl),by repeat (first|(with_reducible first|exact HB.out|apply below_alloc|apply pw_below_drewN|apply below_drew1)|exact HB.out)⟩
   ·
    replace c5:=Bool.eq_false_iff.mpr c5
    subst c5
    have H1:(if a0 < 0 then (mosaicref02_Put.j1 kj2 a0 a1 true) else ((mosaicref02_power.f kj2 a1).bind fun t472=>(mosaicref02_Put.j1 kj2 a0 a1 (decide (a0≥t472)))))=some (r1,r2):=by rw [if_neg (show ¬ (false=true) by decide)] at H;exact H
    clear H
    have H:=H1
    clear H1
    have HC6:=Aside0.mk H
    clear H
    go_upto_region 3 with (fail)
    go_cut [21] (fun v21 wc=>∃ (kq:Nat) (x21_5:Bool),v21=.bool x21_5∧Aside0 (mosaicref02_Put.j1 kq a0 a1 x21_5=some (r1,r2))∧Aside0 (kq≤kj2)∧Aside0 (Below w.heap.size w wc))
    case first =>
     have H:=HC6.out
     clear HC6
     by_cases c7:a0 < 0
     ·
      rw [if_pos c7] at H
      have c7b0:decide (a0 < 0)=true:=decide_eq_true c7
      clear c7
      (first|rw [c7b0]|(simp only [i64_w,i32_w];rw [c7b0])|skip)
      have H':=Aside0.mk H
      clear H
      go_wp2
      go_meet
      case rel=>exact ⟨_,(true),(by first|rfl|(simp;done)|(simp [*];done)),H',⟨by have:=HJ2.out;first|omega|exact Nat.le_refl _⟩,⟨by repeat (first|(with_reducible first|exact HB.out|apply below_alloc|apply pw_below_drewN|apply below_drew1)|exact HB.out)⟩⟩
     ·
      rw [if_neg c7] at H
      have c7b0:decide (a0 < 0)=false:=decide_eq_false c7
      clear c7
      (first|rw [c7b0]|(simp only [i64_w,i32_w];rw [c7b0])|skip)
      replace H:=Option.bind_eq_some_iff.mp H
      obtain ⟨t472,A80,H⟩:=H
      replace H:(mosaicref02_Put.j1 kj2 a0 a1 (decide (a0≥t472)))=some (r1,r2):=H
      have A8:=Aside0.mk A80
      clear A80
      have H':=Aside0.mk H
      clear H
      go_wp2_with (first|(go_at_call 119;(with_reducible refine (mosaicref02_power.calls kj2 a1 t472 _ A8.out).mono ?_);rintro e w' ⟨rfl,⟨nd,rfl⟩⟩))
      go_meet
      case rel=>exact ⟨_,(decide (a0≥t472)),(by first|rfl|(simp;done)|(simp [*];done)),H',⟨by have:=HJ2.out;first|omega|exact Nat.le_refl _⟩,⟨by repeat (first|(with_reducible first|exact HB.out|apply below_alloc|apply pw_below_drewN|apply below_drew1)|exact HB.out)⟩⟩
    case rest =>
     clear HC6
     try clear c1
     try clear p2
     try clear c4
     try clear c4b0
     try clear c5
     try clear c7
     try clear c7b0
     try clear p2
     obtain ⟨kq,x21_5,rfl,HA,HJ5,HB⟩:=hcut
     cases kq with
     | zero=>exact absurd HA.out (by simp [mosaicref02_Put.j1])
     | succ kj5 =>
      have H:=HA.out
      clear HA
      simp only [mosaicref02_Put.j1] at H
      by_cases c9:x21_5=true
      ·
       subst c9
       have H1:(some ((⟨#[]⟩:ByteArray),8))=some (r1,r2):=by rw [if_pos rfl] at H;exact H
       clear H
       have H:=H1
       clear H1
       simp only [Option.some.injEq,Prod.mk.injEq] at H
       obtain ⟨rfl,rfl⟩:=H
       go_wp2
       go_ret2
       exact ⟨by first|rfl|(simp [errW_none,errW_some] <;> rfl)|(simp [*,errW_none,errW_some] <;> rfl),by repeat (first|(with_reducible first|exact HB.out|apply below_alloc|apply pw_below_drewN|apply below_drew1)|exact HB.out)⟩
      ·
       replace c9:=Bool.eq_false_iff.mpr c9
       subst c9
       have H1:(mosaicref02_Put.l0 kj5 a0 ([]:List Int) (wrap64 (a1 - 1)))=some (r1,r2):=by rw [if_neg (show ¬ (false=true) by decide)] at H;exact H
       clear H
       have H:=H1
       clear H1
       have H':=Aside0.mk H
       clear H
       go_wp2
       go_loopg [6,7] kj5 (fun kq v6 v7 w'=>∃ (x6_3:List Int) (x7_3:Int),v7=.int .i64 x7_3∧Aside0 (mosaicref02_Put.l0 kq a0 x6_3 x7_3=some (r1,r2))∧Aside0 (kq≤kj5)∧Aside0 (Kd.R (Kd.int .u8) 5 w' w.heap.size (fun _=>True) v6 x6_3)∧Aside0 (Below w.heap.size w w'))
       case atStart=>exact ⟨(([]:List Int)),(wrap64 (a1 - 1)),(by first|rfl|(simp;done)|(simp [*];done)),H',⟨Nat.le_refl _⟩,⟨by first|exact Kd.R_nil _ _ _ _ _|exact Kd.N_nil _ _ _ _ _|exact Kd.V_nil _ _ _ _ _|exact Kd.Q_nil _ _ _ _ _|exact Kd.S_nil _ _ _ _ _⟩,⟨by repeat (first|(with_reducible first|exact HB.out|apply below_alloc|apply pw_below_drewN|apply below_drew1)|exact HB.out)⟩⟩
       case round =>
        clear H'
        try clear c1
        try clear p2
        try clear c4
        try clear c4b0
        try clear c5
        try clear p6
        try clear c7
        try clear c7b0
        try clear c9
        try clear p2
        obtain ⟨x6_3,x7_3,rfl,HA,HK3,HO_6,HB⟩:=hrel
        cases gk with
        | zero=>exact absurd HA.out (by simp [mosaicref02_Put.l0])
        | succ k3 =>
         have H:=HA.out
         clear HA
         simp only [mosaicref02_Put.l0] at H
         by_cases c10:x7_3≥0
         ·
          rw [if_pos c10] at H
          have c10b0:decide (0≤x7_3)=true:=decide_eq_true c10
          clear c10
          replace H:=Option.bind_eq_some_iff.mp H
          obtain ⟨t473,A110,H⟩:=H
          replace H:(if t473=0 then (none) else (if x6_3.length < 140737488355328 then (mosaicref02_Put.l0 k3 a0 (x6_3 ++ [(Int.tmod (wrap64 (Int.tdiv a0 t473)) 256) % 256]) (wrap64 (x7_3 - 1))) else (none)))=some (r1,r2):=H
          have A11:=Aside0.mk A110
          clear A110
          by_cases c12:t473=0
          ·
           rw [if_pos c12] at H
           exact absurd H (by simp)
          ·
           rw [if_neg c12] at H
           have c12b0:(t473 == 0)=false:=beq_eq_false_iff_ne.mpr c12
           have c12b1:(t473 != 0)=true:=bne_iff_ne.mpr c12
           by_cases c13:x6_3.length < 140737488355328
           ·
            rw [if_pos c13] at H
            have LMc13:=Aside0.mk c13
            clear c13
            obtain ⟨y474,hy474⟩:∃ y_:List Int,y_=(x6_3 ++ [(Int.tmod (wrap64 (Int.tdiv a0 t473)) 256) % 256]):=⟨_,rfl⟩
            replace H:(mosaicref02_Put.l0 k3 a0 y474 (wrap64 (x7_3 - 1)))=some (r1,r2):=by first|(rw [hy474];with_reducible exact H)|(have H2_:=(Option.bind_some _ _).symm.trans H;rw [hy474];with_reducible exact H2_)|(have H2_:=(Option.bind_some _ _).symm.trans H;with_reducible exact H2_)|with_reducible exact H|(rw [hy474];exact H)|exact H
            have Ny474:=Aside0.mk hy474
            clear hy474
            have H':=Aside0.mk H
            clear H
            go_wp2_with (first|((with_reducible refine gate_callee (f:=119) rfl ?_);refine goesL_ (some 31) rfl rfl Try.func119 (by kernel_rfl) rfl #[.int .i64 x7_3] rfl (by (try simp only [List.map_toArray,List.map_cons,List.map_nil]);first|done|rfl|(simp only [List.length_drop,List.length_take];rfl)) ?_;(with_reducible refine (mosaicref02_power.calls k3 x7_3 t473 _ A11.out).mono ?_);rintro e w' ⟨rfl,⟨nd,rfl⟩⟩;refine ⟨_,rfl,?_⟩)|((with_reducible refine gate_builtin (b:=.append) (xs:=#[.tmp 28,.tmp 35]) rfl ?_);at_builtin;refine Kd.R_append (Kd.int .u8) (w0:=w) w.heap.size rfl (.tmp 28) (.tmp 35) 47 5 (.int .u8 0) 1 rfl Try.underlying47 info5 rfl (by decide) (by omega) u6 x6_3 ((Int.tmod (wrap64 (Int.tdiv a0 t473)) 256) % 256) [.int .u8 ((Int.tmod (wrap64 (Int.tdiv a0 t473)) 256) % 256)] (fun _=>True) (fun _=>False) rfl rfl ?aP (fun _ hk=>hk.elim) ?aF ?aO ?aB ?aS ?aL ?_;(case aP=>exact rfl);(case aB=>exact (by repeat (first|(with_reducible first|exact HB.out|apply below_alloc|apply pw_below_drewN|apply below_drew1)|exact HB.out)));(case aF=>exact (fun _ _=>trivial));(case aO=>exact (by (with_reducible repeat (first|apply Kd.R_alloc|apply Kd.R_drewN|apply Kd.R_drew));exact HO_6.out));(case aS=>exact (below_size (by repeat (first|(with_reducible first|exact HB.out|apply below_alloc|apply pw_below_drewN|apply below_drew1)|exact HB.out))));(case aL=>have:=LMc13.out;omega);intro v475 w14 ho hb hg hat;rw [← Ny474.out] at ho;have n0_:=Aside0.mk (hb);have n1_:=Aside0.mk (ho);clear HB;clear HO_6;have HB:=n0_;have HO476:=n1_;clear n0_ n1_;clear ho hb hg hat))
            go_roundg k3
            case measure=>have:=HJ2.out;have:=HJ5.out;have:=HK3.out;omega
            case rel=>exact ⟨(y474),(wrap64 (x7_3 - 1)),(by first|rfl|(simp;done)|(simp [*];done)),H',⟨by have:=HJ2.out;have:=HJ5.out;have:=HK3.out;omega⟩,⟨by (with_reducible repeat (first|apply Kd.R_alloc|apply Kd.R_drewN|apply Kd.R_drew));exact HO476.out⟩,⟨by repeat (first|(with_reducible first|exact HB.out|apply below_alloc|apply pw_below_drewN|apply below_drew1)|exact HB.out)⟩⟩
           ·
            rw [if_neg c13] at H
            exact absurd H (by simp)
         ·
          rw [if_neg c10] at H
          have c10b0:decide (0≤x7_3)=false:=decide_eq_false c10
          clear c10
          simp only [Option.some.injEq,Prod.mk.injEq] at H
          obtain ⟨rfl,rfl⟩:=H
          have hcv15:=own_string (P:=Try.prog) Try.underlying47 Try.underlying5 Try.underlying9 (Kd.own_of_R HO_6.out)
          go_wp2
          go_ret2
          exact ⟨by first|rfl|(simp [errW_none,errW_some] <;> rfl)|(simp [*,errW_none,errW_some] <;> rfl),by repeat (first|(with_reducible first|exact HB.out|apply below_alloc|apply pw_below_drewN|apply below_drew1)|exact HB.out)⟩
end Go.Proofs.Ytelcaepenfjloaa.Print
/-! #### Pr104 -/
namespace Go.Proofs.Ytelcaepenfjloaa.Print
open Go.RowKit Go.Proofs.YtelcaepenfjloaaW.PrintWords Go.Proofs.YtelcaepenfjloaaW.PrintLast Go.Proofs.YtelcaepenfjloaaW.PrintMore
attribute [local go_sem] max2_int min2_int max_two min_two max_three min_three max_four min_four
set_option linter.unusedVariables false
set_option linter.unusedSimpArgs false
/-! ### mosaicref02_Num: function 104 -/
def mosaicref02_Num.f (k:Nat) (a0:Int) (a1:Int):Option (ByteArray):=(mosaicref02_Put.f k a0 a1).bind fun bt477=>(some bt477.1)
theorem mosaicref02_Num.mono:∀ a0 a1 k,LeO (mosaicref02_Num.f k a0 a1) (mosaicref02_Num.f (k+1) a0 a1):=by
 intro a0 a1 k
 unfold mosaicref02_Num.f
 repeat' first
   | (with_reducible exact mosaicref02_Put.mono _ _ _)
   | (with_reducible exact LeO.refl _)
   | (with_reducible exact LeO.none _)
   | (with_reducible refine LeO.ite ?_ ?_)
   | (with_reducible refine LeO.bind ?_ (fun _=>?_))
   | exact mosaicref02_Put.mono _ _ _
   | exact LeO.none _
   | refine LeO.ite ?_ ?_
   | refine LeO.bind ?_ (fun _=>?_)
set_option maxHeartbeats 8000000 in
set_option maxRecDepth 100000 in
theorem mosaicref02_Num.calls (k:Nat) (a0:Int) (a1:Int) (r:ByteArray) (w:World) (h:mosaicref02_Num.f k a0 a1=some r) :
  Calls Try.prog 104 #[.int .i64 a0,.int .i64 a1] w fun e w'=>e=.returned (.string r)∧Below w.heap.size w w':=by
 have HB:=Aside0.mk (Below.refl w.heap.size w)
 have H:((mosaicref02_Put.f k a0 a1).bind fun bt477=>(some bt477.1))=some r:=h
 clear h
 replace H:=Option.bind_eq_some_iff.mp H
 obtain ⟨⟨t477,t478⟩,A30,H⟩:=H
 replace H:(some t477)=some r:=H
 have A3:=Aside0.mk A30
 clear A30
 obtain rfl:=Option.some.inj H
 go_enter Try.func104,Try.ntmps104
 go_wp2_with (first|((with_reducible refine gate_callee (f:=103) rfl ?_);refine goesL_ (some 10) rfl rfl Try.func103 (by kernel_rfl) rfl #[.int .i64 a0,.int .i64 a1] rfl (by (try simp only [List.map_toArray,List.map_cons,List.map_nil]);first|done|rfl|(simp only [List.length_drop,List.length_take];rfl)) ?_;(with_reducible refine (mosaicref02_Put.calls k a0 a1 t477 t478 _ A3.out).mono ?_);rintro e w4 ⟨rfl,hb⟩;refine ⟨_,rfl,?_⟩;have n0_:=Aside0.mk (below_step (by repeat (first|(with_reducible first|exact HB.out|apply below_alloc|apply pw_below_drewN|apply below_drew1)|exact HB.out)) hb);clear HB;have HB:=n0_;clear n0_;(try clear hb);(try clear hb2);(try clear hk);(try clear hi)))
 go_ret
 exact ⟨by first|rfl|(simp [errW_none,errW_some] <;> rfl)|(simp [*,errW_none,errW_some] <;> rfl),by repeat (first|(with_reducible first|exact HB.out|apply below_alloc|apply pw_below_drewN|apply below_drew1)|exact HB.out)⟩
end Go.Proofs.Ytelcaepenfjloaa.Print
/-! #### Pr120 -/
namespace Go.Proofs.Ytelcaepenfjloaa.Print
open Go.RowKit Go.Proofs.YtelcaepenfjloaaW.PrintWords Go.Proofs.YtelcaepenfjloaaW.PrintLast Go.Proofs.YtelcaepenfjloaaW.PrintMore
attribute [local go_sem] max2_int min2_int max_two min_two max_three min_three max_four min_four
set_option linter.unusedVariables false
set_option linter.unusedSimpArgs false
/-! ### mosaicref02_Get: function 120 -/
def mosaicref02_Get.l0:Nat→ByteArray→Int→Int→Option (Int)
 | 0,_,_,_=>none
 | k+1,x0,x3,x4=>if x4 < (x0.size:Int) then (if 0≤x4 then (mosaicref02_Get.l0 k x0 (wrap64 ((wrap64 (256 * x3))+(wrap64 (bt x0 x4)))) (wrap64 (x4+1))) else (none)) else (some x3)
def mosaicref02_Get.f (k:Nat) (a0:ByteArray):Option (Int):=if (a0.size:Int) > 7 then (some 0) else (mosaicref02_Get.l0 k a0 0 0)
theorem mosaicref02_Get.mono_l:∀ k,(∀ y0 y1 y2,LeO (mosaicref02_Get.l0 k y0 y1 y2) (mosaicref02_Get.l0 (k+1) y0 y1 y2))
 | 0=>fun _ _ _ r h=>by simp [mosaicref02_Get.l0] at h
 | k+1=>by
  have ih0:=mosaicref02_Get.mono_l k
  ·
   intro y0 y1 y2
   unfold mosaicref02_Get.l0
   repeat' first
   | (with_reducible exact ih0 _ _ _)
   | (with_reducible exact LeO.refl _)
   | (with_reducible exact LeO.none _)
   | (with_reducible refine LeO.ite ?_ ?_)
   | (with_reducible refine LeO.bind ?_ (fun _=>?_))
   | exact ih0 _ _ _
   | exact LeO.none _
   | refine LeO.ite ?_ ?_
   | refine LeO.bind ?_ (fun _=>?_)
theorem mosaicref02_Get.mono:∀ a0 k,LeO (mosaicref02_Get.f k a0) (mosaicref02_Get.f (k+1) a0):=by
 intro a0 k
 have ih0:=mosaicref02_Get.mono_l k
 unfold mosaicref02_Get.f
 repeat' first
   | (with_reducible exact ih0 _ _ _)
   | (with_reducible exact LeO.refl _)
   | (with_reducible exact LeO.none _)
   | (with_reducible refine LeO.ite ?_ ?_)
   | (with_reducible refine LeO.bind ?_ (fun _=>?_))
   | exact ih0 _ _ _
   | exact LeO.none _
   | refine LeO.ite ?_ ?_
   | refine LeO.bind ?_ (fun _=>?_)
set_option maxHeartbeats 8000000 in
set_option maxRecDepth 100000 in
theorem mosaicref02_Get.calls (k:Nat) (a0:ByteArray) (r:Int) (w:World) (h:mosaicref02_Get.f k a0=some r) :
  Calls Try.prog 120 #[.string a0] w fun e w'=>e=.returned (.int .i64 r)∧Drawn0 w w':=by
 have H:(if (a0.size:Int) > 7 then (some 0) else (mosaicref02_Get.l0 k a0 0 0))=some r:=h
 clear h
 by_cases c2:(a0.size:Int) > 7
 ·
  rw [if_pos c2] at H
  have c2b0:decide (7 < (a0.size:Int))=true:=decide_eq_true c2
  have c2b1:decide (7 < a0.size)=true:=decide_eq_true (by omega)
  clear c2
  obtain rfl:=Option.some.inj H
  go_enter Try.func120,Try.ntmps120
  go_wp2
  go_ret
  exact ⟨by first|rfl|(simp;done)|(simp [*];done),by repeat (first|exact Drawn0.refl _|apply Drawn0.step)⟩
 ·
  rw [if_neg c2] at H
  have c2b0:decide (7 < (a0.size:Int))=false:=decide_eq_false c2
  have c2b1:decide (7 < a0.size)=false:=decide_eq_false (by omega)
  clear c2
  have H':=Aside0.mk H
  clear H
  go_enter Try.func120,Try.ntmps120
  go_wp2
  go_loopg [3,4] k (fun kq v3 v4 w'=>∃ (x3_1:Int) (x4_1:Int),v3=.int .i64 x3_1∧v4=.int .i64 x4_1∧Aside0 (mosaicref02_Get.l0 kq a0 x3_1 x4_1=some r)∧Aside0 (kq≤k)∧Drawn0 w w')
  case atStart=>exact ⟨(0),(0),(by first|rfl|(simp;done)|(simp [*];done)),(by first|rfl|(simp;done)|(simp [*];done)),H',⟨Nat.le_refl _⟩,by repeat (first|exact Drawn0.refl _|apply Drawn0.step)⟩
  case round =>
   clear H'
   try clear c1
   try clear c2
   try clear c2b0
   try clear c2b1
   try clear p2
   obtain ⟨x3_1,x4_1,rfl,rfl,HA,HK1,⟨m1,rfl⟩⟩:=hrel
   cases gk with
   | zero=>exact absurd HA.out (by simp [mosaicref02_Get.l0])
   | succ k1 =>
    have H:=HA.out
    clear HA
    simp only [mosaicref02_Get.l0] at H
    by_cases c3:x4_1 < (a0.size:Int)
    ·
     rw [if_pos c3] at H
     have c3b0:decide (x4_1 < (a0.size:Int))=true:=decide_eq_true c3
     clear c3
     by_cases c4:0≤x4_1
     ·
      rw [if_pos c4] at H
      have c4b0:decide (0≤x4_1)=true:=decide_eq_true c4
      clear c4
      have H':=Aside0.mk H
      clear H
      have p5:0≤(x4_1:Int):=of_decide_eq_true (by first|(with_reducible assumption)|assumption)
      have q5:x4_1 < (a0.size:Int):=of_decide_eq_true (by first|(with_reducible assumption)|assumption)
      have hx5:=bt_at a0 x4_1
      replace p5:=eq_true p5
      replace q5:=eq_true q5
      go_wp2
      go_roundg k1
      case measure=>have:=HK1.out;omega
      case rel=>exact ⟨(wrap64 ((wrap64 (256 * x3_1))+(wrap64 (bt a0 x4_1)))),(wrap64 (x4_1+1)),(by first|rfl|(simp;done)|(simp [*];done)),(by first|rfl|(simp;done)|(simp [*];done)),H',⟨by have:=HK1.out;omega⟩,by repeat (first|exact Drawn0.refl _|apply Drawn0.step)⟩
     ·
      rw [if_neg c4] at H
      exact absurd H (by simp)
    ·
     rw [if_neg c3] at H
     have c3b0:decide (x4_1 < (a0.size:Int))=false:=decide_eq_false c3
     clear c3
     obtain rfl:=Option.some.inj H
     go_wp2
     go_ret
     exact ⟨by first|rfl|(simp;done)|(simp [*];done),by repeat (first|exact Drawn0.refl _|apply Drawn0.step)⟩
end Go.Proofs.Ytelcaepenfjloaa.Print
/-! #### Pr29 -/
namespace Go.Proofs.Ytelcaepenfjloaa.Print
open Go.RowKit Go.Proofs.YtelcaepenfjloaaW.PrintWords Go.Proofs.YtelcaepenfjloaaW.PrintLast Go.Proofs.YtelcaepenfjloaaW.PrintMore
attribute [local go_sem] max2_int min2_int max_two min_two max_three min_three max_four min_four
set_option linter.unusedVariables false
set_option linter.unusedSimpArgs false
/-! ### mosaicref01_Pad: function 29 -/
mutual
def mosaicref01_Pad.j0:Nat→Int→Bool→Option (ByteArray)
 | 0,_,_=>none
 | k+1,x0,x10=>if x10=true then (some (⟨#[]⟩:ByteArray)) else (mosaicref01_Pad.l0 k x0 (([128]:List Int)))
def mosaicref01_Pad.l0:Nat→Int→List Int→Option (ByteArray)
 | 0,_,_=>none
 | k+1,x0,x3=>if (Int.tmod (wrap64 ((wrap64 (x0+(x3.length:Int)))+8)) 64)=0 then ((some (([0,0,0,0,(wrap64 (Int.tdiv (wrap64 (8 * x0)) 16777216)) % 256,(Int.tmod (wrap64 (Int.tdiv (wrap64 (8 * x0)) 65536)) 256) % 256,(Int.tmod (wrap64 (Int.tdiv (wrap64 (8 * x0)) 256)) 256) % 256,(Int.tmod (wrap64 (8 * x0)) 256) % 256]:List Int):List Int)).bind fun y122=>(if x3.length+y122.length < 140737488355328 then (some (strOfNums (x3 ++ y122))) else (none))) else (if x3.length < 140737488355328 then (mosaicref01_Pad.l0 k x0 (x3 ++ [0])) else (none))
end
def mosaicref01_Pad.f (k:Nat) (a0:Int):Option (ByteArray):=if a0 < 0 then (mosaicref01_Pad.j0 k a0 true) else (mosaicref01_Pad.j0 k a0 (decide (a0 > 65536)))
theorem mosaicref01_Pad.mono_l:∀ k,(∀ y0 y1,LeO (mosaicref01_Pad.j0 k y0 y1) (mosaicref01_Pad.j0 (k+1) y0 y1))∧(∀ y0 y1,LeO (mosaicref01_Pad.l0 k y0 y1) (mosaicref01_Pad.l0 (k+1) y0 y1))
 | 0=>⟨fun _ _ r h=>by simp [mosaicref01_Pad.j0] at h,fun _ _ r h=>by simp [mosaicref01_Pad.l0] at h⟩
 | k+1=>by
  obtain ⟨ih0,ih1⟩:=mosaicref01_Pad.mono_l k
  refine ⟨?_,?_⟩
  ·
   intro y0 y1
   unfold mosaicref01_Pad.j0
   repeat' first
   | (with_reducible exact ih0 _ _)
   | (with_reducible exact ih1 _ _)
   | (with_reducible exact LeO.refl _)
   | (with_reducible exact LeO.none _)
   | (with_reducible refine LeO.ite ?_ ?_)
   | (with_reducible refine LeO.bind ?_ (fun _=>?_))
   | exact ih0 _ _
   | exact ih1 _ _
   | exact LeO.none _
   | refine LeO.ite ?_ ?_
   | refine LeO.bind ?_ (fun _=>?_)
  ·
   intro y0 y1
   unfold mosaicref01_Pad.l0
   repeat' first
   | (with_reducible exact ih0 _ _)
   | (with_reducible exact ih1 _ _)
   | (with_reducible exact LeO.refl _)
   | (with_reducible exact LeO.none _)
   | (with_reducible refine LeO.ite ?_ ?_)
   | (with_reducible refine LeO.bind ?_ (fun _=>?_))
   | exact ih0 _ _
   | exact ih1 _ _
   | exact LeO.none _
   | refine LeO.ite ?_ ?_
   | refine LeO.bind ?_ (fun _=>?_)
theorem mosaicref01_Pad.mono:∀ a0 k,LeO (mosaicref01_Pad.f k a0) (mosaicref01_Pad.f (k+1) a0):=by
 intro a0 k
 obtain ⟨ih0,ih1⟩:=mosaicref01_Pad.mono_l k
 unfold mosaicref01_Pad.f
 repeat' first
   | (with_reducible exact ih0 _ _)
   | (with_reducible exact ih1 _ _)
   | (with_reducible exact LeO.refl _)
   | (with_reducible exact LeO.none _)
   | (with_reducible refine LeO.ite ?_ ?_)
   | (with_reducible refine LeO.bind ?_ (fun _=>?_))
   | exact ih0 _ _
   | exact ih1 _ _
   | exact LeO.none _
   | refine LeO.ite ?_ ?_
   | refine LeO.bind ?_ (fun _=>?_)
set_option maxHeartbeats 8000000 in
set_option maxRecDepth 100000 in
theorem mosaicref01_Pad.calls (k:Nat) (a0:Int) (r:ByteArray) (w:World) (h:mosaicref01_Pad.f k a0=some r) :
  Calls Try.prog 29 #[.int .i64 a0] w fun e w'=>e=.returned (.string r)∧Below w.heap.size w w':=by
 have HB:=Aside0.mk (Below.refl w.heap.size w)
 have H:(if a0 < 0 then (mosaicref01_Pad.j0 k a0 true) else (mosaicref01_Pad.j0 k a0 (decide (a0 > 65536))))=some r:=h
 clear h
 have HC2:=Aside0.mk H
 clear H
 go_enter Try.func29,Try.ntmps29
 go_upto_region 1 with (fail)
 go_cut [10] (fun v10 wc=>∃ (kq:Nat) (x10_1:Bool),v10=.bool x10_1∧Aside0 (mosaicref01_Pad.j0 kq a0 x10_1=some r)∧Aside0 (kq≤k)∧Aside0 (Below w.heap.size w wc))
 case first =>
  have H:=HC2.out
  clear HC2
  by_cases c3:a0 < 0
  ·
   rw [if_pos c3] at H
   have c3b0:decide (a0 < 0)=true:=decide_eq_true c3
   clear c3
   (first|rw [c3b0]|(simp only [i64_w,i32_w];rw [c3b0])|skip)
   have H':=Aside0.mk H
   clear H
   go_wp2
   go_meet
   case rel=>exact ⟨_,(true),(by first|rfl|(simp;done)|(simp [*];done)),H',⟨by first|omega|exact Nat.le_refl _⟩,⟨by repeat (first|(with_reducible first|exact HB.out|apply below_alloc|apply pw_below_drewN|apply below_drew1)|exact HB.out)⟩⟩
  ·
   rw [if_neg c3] at H
   have c3b0:decide (a0 < 0)=false:=decide_eq_false c3
   clear c3
   (first|rw [c3b0]|(simp only [i64_w,i32_w];rw [c3b0])|skip)
   have H':=Aside0.mk H
   clear H
   go_wp2
   go_meet
   case rel=>exact ⟨_,(decide (a0 > 65536)),(by first|rfl|(simp;done)|(simp [*];done)),H',⟨by first|omega|exact Nat.le_refl _⟩,⟨by repeat (first|(with_reducible first|exact HB.out|apply below_alloc|apply pw_below_drewN|apply below_drew1)|exact HB.out)⟩⟩
 case rest =>
  clear HC2
  try clear c2
  try clear p2
  try clear c3
  try clear c3b0
  obtain ⟨kq,x10_1,rfl,HA,HJ1,HB⟩:=hcut
  cases kq with
  | zero=>exact absurd HA.out (by simp [mosaicref01_Pad.j0])
  | succ kj1 =>
   have H:=HA.out
   clear HA
   simp only [mosaicref01_Pad.j0] at H
   by_cases c4:x10_1=true
   ·
    subst c4
    have H1:(some (⟨#[]⟩:ByteArray))=some r:=by rw [if_pos rfl] at H;exact H
    clear H
    have H:=H1
    clear H1
    obtain rfl:=Option.some.inj H
    go_wp2
    go_ret
    exact ⟨by first|rfl|(simp [errW_none,errW_some] <;> rfl)|(simp [*,errW_none,errW_some] <;> rfl),by repeat (first|(with_reducible first|exact HB.out|apply below_alloc|apply pw_below_drewN|apply below_drew1)|exact HB.out)⟩
   ·
    replace c4:=Bool.eq_false_iff.mpr c4
    subst c4
    have H1:(mosaicref01_Pad.l0 kj1 a0 (([128]:List Int)))=some r:=by rw [if_neg (show ¬ (false=true) by decide)] at H;exact H
    clear H
    have H:=H1
    clear H1
    obtain ⟨y119,hy119⟩:∃ y_:List Int,y_=(([128]:List Int)):=⟨_,rfl⟩
    replace H:(mosaicref01_Pad.l0 kj1 a0 y119)=some r:=by first|(rw [hy119];with_reducible exact H)|(have H2_:=(Option.bind_some _ _).symm.trans H;rw [hy119];with_reducible exact H2_)|(have H2_:=(Option.bind_some _ _).symm.trans H;with_reducible exact H2_)|with_reducible exact H|(rw [hy119];exact H)|exact H
    have Ny119:=Aside0.mk hy119
    clear hy119
    have H':=Aside0.mk H
    clear H
    go_wp2_with (first|((with_reducible refine gate_dst (N:=11) rfl ?_);refine Kd.R_lit (Kd.int .u8) _ 5 ?hg (N:=11) ?hd (xs:=([128]:List Int)) (inner:=[.int .u8 128]) (ok:=fun _=>True) (okp:=fun _=>True) ?hr ?hp (fun _ hk=>hk) trivial (Below.refl _ _) (Nat.le_refl _) (by simp) ?_;(case hd=>rfl);(case hg=>rfl);(case hr=>first|(go_simp;done)|(go_simp;rfl));(case hp=>exact (Reps.one (show Kd.M (Kd.int .u8) _ _ _ 128 [.int .u8 128] from rfl) (Reps.none _ _)));intro v120 w5 ho6 hb hg_ hnew_;clear hg_ hnew_;(first|rw [← Ny119.out] at ho6|(simp only [Int.reduceToNat] at ho6;rw [← Ny119.out] at ho6));have n0_:=Aside0.mk (Kd.R_lower ho6 (below_size (by repeat (first|(with_reducible first|exact HB.out|apply below_alloc|apply pw_below_drewN|apply below_drew1)|exact HB.out))));have n1_:=Aside0.mk (below_step (by repeat (first|(with_reducible first|exact HB.out|apply below_alloc|apply pw_below_drewN|apply below_drew1)|exact HB.out)) hb);clear HB;have HO121:=n0_;have HB:=n1_;clear n0_ n1_;clear hb ho6))
    go_loopg [3] kj1 (fun kq v3 w'=>∃ (x3_2:List Int),Aside0 (mosaicref01_Pad.l0 kq a0 x3_2=some r)∧Aside0 (kq≤kj1)∧Aside0 (Kd.R (Kd.int .u8) 5 w' w.heap.size (fun _=>True) v3 x3_2)∧Aside0 (Below w.heap.size w w'))
    case atStart=>exact ⟨(y119),H',⟨Nat.le_refl _⟩,⟨by (with_reducible repeat (first|apply Kd.R_alloc|apply Kd.R_drewN|apply Kd.R_drew));exact HO121.out⟩,⟨by repeat (first|(with_reducible first|exact HB.out|apply below_alloc|apply pw_below_drewN|apply below_drew1)|exact HB.out)⟩⟩
    case round =>
     clear H'
     try clear c2
     try clear p2
     try clear c3
     try clear c3b0
     try clear c4
     try clear p2
     obtain ⟨x3_2,HA,HK2,HO_3,HB⟩:=hrel
     cases gk with
     | zero=>exact absurd HA.out (by simp [mosaicref01_Pad.l0])
     | succ k2 =>
      have H:=HA.out
      clear HA
      simp only [mosaicref01_Pad.l0] at H
      by_cases c7:(Int.tmod (wrap64 ((wrap64 (a0+(x3_2.length:Int)))+8)) 64)=0
      ·
       rw [if_pos c7] at H
       have c7b0:((Int.tmod (wrap64 ((wrap64 (a0+(x3_2.length:Int)))+8)) 64) == 0)=true:=beq_iff_eq.mpr c7
       have c7b1:((Int.tmod (wrap64 ((wrap64 (a0+(x3_2.length:Int)))+8)) 64) != 0)=false:=bne_eq_false_iff_eq.mpr c7
       clear c7
       obtain ⟨y122,hy122⟩:∃ y_:List Int,y_=(([0,0,0,0,(wrap64 (Int.tdiv (wrap64 (8 * a0)) 16777216)) % 256,(Int.tmod (wrap64 (Int.tdiv (wrap64 (8 * a0)) 65536)) 256) % 256,(Int.tmod (wrap64 (Int.tdiv (wrap64 (8 * a0)) 256)) 256) % 256,(Int.tmod (wrap64 (8 * a0)) 256) % 256]:List Int)):=⟨_,rfl⟩
       replace H:(if x3_2.length+y122.length < 140737488355328 then (some (strOfNums (x3_2 ++ y122))) else (none))=some r:=by first|(rw [hy122];with_reducible exact H)|(have H2_:=(Option.bind_some _ _).symm.trans H;rw [hy122];with_reducible exact H2_)|(have H2_:=(Option.bind_some _ _).symm.trans H;with_reducible exact H2_)|with_reducible exact H|(rw [hy122];exact H)|exact H
       have Ny122:=Aside0.mk hy122
       clear hy122
       by_cases c8:x3_2.length+y122.length < 140737488355328
       ·
        rw [if_pos c8] at H
        have LMc8:=Aside0.mk c8
        clear c8
        obtain ⟨y125,hy125⟩:∃ y_:List Int,y_=(x3_2 ++ y122):=⟨_,rfl⟩
        replace H:(some (strOfNums y125))=some r:=by first|(rw [hy125];with_reducible exact H)|(have H2_:=(Option.bind_some _ _).symm.trans H;rw [hy125];with_reducible exact H2_)|(have H2_:=(Option.bind_some _ _).symm.trans H;with_reducible exact H2_)|with_reducible exact H|(rw [hy125];exact H)|exact H
        have Ny125:=Aside0.mk hy125
        clear hy125
        obtain rfl:=Option.some.inj H
        obtain ⟨Ao9,co9,eo9⟩:=Kd.R_slice HO_3.out
        subst eo9
        go_wp2_with (first|((with_reducible refine gate_dst (N:=39) rfl ?_);refine Kd.R_lit (Kd.int .u8) _ 5 ?hg (N:=39) ?hd (xs:=([0,0,0,0,(wrap64 (Int.tdiv (wrap64 (8 * a0)) 16777216)) % 256,(Int.tmod (wrap64 (Int.tdiv (wrap64 (8 * a0)) 65536)) 256) % 256,(Int.tmod (wrap64 (Int.tdiv (wrap64 (8 * a0)) 256)) 256) % 256,(Int.tmod (wrap64 (8 * a0)) 256) % 256]:List Int)) (inner:=[.int .u8 0,.int .u8 0,.int .u8 0,.int .u8 0,.int .u8 ((wrap64 (Int.tdiv (wrap64 (8 * a0)) 16777216)) % 256),.int .u8 ((Int.tmod (wrap64 (Int.tdiv (wrap64 (8 * a0)) 65536)) 256) % 256),.int .u8 ((Int.tmod (wrap64 (Int.tdiv (wrap64 (8 * a0)) 256)) 256) % 256),.int .u8 ((Int.tmod (wrap64 (8 * a0)) 256) % 256)]) (ok:=fun _=>True) (okp:=fun _=>True) ?hr ?hp (fun _ hk=>hk) trivial (Below.refl _ _) (Nat.le_refl _) (by simp) ?_;(case hd=>rfl);(case hg=>rfl);(case hr=>first|(go_simp;done)|(go_simp;rfl));(case hp=>exact (Reps.one (show Kd.M (Kd.int .u8) _ _ _ 0 [.int .u8 0] from rfl) (Reps.one (show Kd.M (Kd.int .u8) _ _ _ 0 [.int .u8 0] from rfl) (Reps.one (show Kd.M (Kd.int .u8) _ _ _ 0 [.int .u8 0] from rfl) (Reps.one (show Kd.M (Kd.int .u8) _ _ _ 0 [.int .u8 0] from rfl) (Reps.one (show Kd.M (Kd.int .u8) _ _ _ ((wrap64 (Int.tdiv (wrap64 (8 * a0)) 16777216)) % 256) [.int .u8 ((wrap64 (Int.tdiv (wrap64 (8 * a0)) 16777216)) % 256)] from rfl) (Reps.one (show Kd.M (Kd.int .u8) _ _ _ ((Int.tmod (wrap64 (Int.tdiv (wrap64 (8 * a0)) 65536)) 256) % 256) [.int .u8 ((Int.tmod (wrap64 (Int.tdiv (wrap64 (8 * a0)) 65536)) 256) % 256)] from rfl) (Reps.one (show Kd.M (Kd.int .u8) _ _ _ ((Int.tmod (wrap64 (Int.tdiv (wrap64 (8 * a0)) 256)) 256) % 256) [.int .u8 ((Int.tmod (wrap64 (Int.tdiv (wrap64 (8 * a0)) 256)) 256) % 256)] from rfl) (Reps.one (show Kd.M (Kd.int .u8) _ _ _ ((Int.tmod (wrap64 (8 * a0)) 256) % 256) [.int .u8 ((Int.tmod (wrap64 (8 * a0)) 256) % 256)] from rfl) (Reps.none _ _))))))))));intro v123 w10 ho11 hb hg_ hnew_;clear hg_ hnew_;(first|rw [← Ny122.out] at ho11|(simp only [Int.reduceToNat] at ho11;rw [← Ny122.out] at ho11));have n0_:=Aside0.mk (Kd.R_elder' (by (with_reducible repeat (first|apply Kd.R_alloc|apply Kd.R_drewN|apply Kd.R_drew));exact HO_3.out) (Kd.R_base ho11) hb);have n1_:=Aside0.mk (Kd.R_lower (Kd.R_new' ho11 (Kd.R_lt (by (with_reducible repeat (first|apply Kd.R_alloc|apply Kd.R_drewN|apply Kd.R_drew));exact HO_3.out))) (below_size (by repeat (first|(with_reducible first|exact HB.out|apply below_alloc|apply pw_below_drewN|apply below_drew1)|exact HB.out))));have n2_:=Aside0.mk (below_step (by repeat (first|(with_reducible first|exact HB.out|apply below_alloc|apply pw_below_drewN|apply below_drew1)|exact HB.out)) hb);clear HO_3;clear HB;have HO_3:=n0_;have HO124:=n1_;have HB:=n2_;clear n0_ n1_ n2_;clear hb ho11;obtain ⟨Ao13,co13,eo13⟩:=Kd.R_slice HO124.out;subst eo13)|((with_reducible refine gate_builtin (b:=.append) (xs:=#[.tmp 24,.tmp 39]) rfl ?_);at_builtin;refine Kd.R_append_rows (Kd.int .u8) (w0:=w) w.heap.size rfl (.tmp 24) (.tmp 39) 47 5 (.int .u8 0) 1 rfl Try.underlying47 info5 rfl (by decide) (by omega) (.slice Ao9 x3_2.length co9) x3_2 y122 _ _ _ (fun k_=>some k_≠(.slice Ao13 y122.length co13:Value).ownBlock) (fun _=>False) rfl rfl ?aO ?aR (fun _ _ h=>h) (fun _ h=>h.elim) ?aF ?aB ?aS ?aL ?_;(case aR=>repeat (first|exact (Kd.R_reads' HO124.out).2.2|(with_reducible refine Kd.C_alloc ?_ _)|(with_reducible refine Kd.C_drewN ?_ _)|(with_reducible refine Kd.C_drew ?_)));(case aB=>exact (by repeat (first|(with_reducible first|exact HB.out|apply below_alloc|apply pw_below_drewN|apply below_drew1)|exact HB.out)));(case aF=>exact (fun k_ hk=>Kd.fresh' (Kd.R_lt (by (with_reducible repeat (first|apply Kd.R_alloc|apply Kd.R_drewN|apply Kd.R_drew));exact HO124.out)) k_ hk));(case aO=>exact (by (with_reducible repeat (first|apply Kd.R_alloc|apply Kd.R_drewN|apply Kd.R_drew));exact Kd.R_mono HO_3.out (fun _ hk=>hk.2)));(case aS=>exact (below_size (by repeat (first|(with_reducible first|exact HB.out|apply below_alloc|apply pw_below_drewN|apply below_drew1)|exact HB.out))));(case aL=>have:=LMc8.out;omega);intro v126 w12 ho hb hg hat;rw [← Ny125.out] at ho;have n0_:=Aside0.mk (Kd.R_after (ok:=(fun _=>True)) (by (with_reducible repeat (first|apply Kd.R_alloc|apply Kd.R_drewN|apply Kd.R_drew));exact HO124.out) hg hat);have n1_:=Aside0.mk (hb);have n2_:=Aside0.mk (ho);clear HO124;clear HB;clear HO_3;have HO124:=n0_;have HB:=n1_;have HO127:=n2_;clear n0_ n1_ n2_;clear ho hb hg hat;have hcv14:=own_string (P:=Try.prog) Try.underlying47 Try.underlying5 Try.underlying9 (Kd.own_of_R HO127.out)))
        go_ret
        exact ⟨by first|rfl|(simp [errW_none,errW_some] <;> rfl)|(simp [*,errW_none,errW_some] <;> rfl),by repeat (first|(with_reducible first|exact HB.out|apply below_alloc|apply pw_below_drewN|apply below_drew1)|exact HB.out)⟩
       ·
        rw [if_neg c8] at H
        exact absurd H (by simp)
      ·
       rw [if_neg c7] at H
       have c7b0:((Int.tmod (wrap64 ((wrap64 (a0+(x3_2.length:Int)))+8)) 64) == 0)=false:=beq_eq_false_iff_ne.mpr c7
       have c7b1:((Int.tmod (wrap64 ((wrap64 (a0+(x3_2.length:Int)))+8)) 64) != 0)=true:=bne_iff_ne.mpr c7
       by_cases c15:x3_2.length < 140737488355328
       ·
        rw [if_pos c15] at H
        have LMc15:=Aside0.mk c15
        clear c15
        obtain ⟨y128,hy128⟩:∃ y_:List Int,y_=(x3_2 ++ [0]):=⟨_,rfl⟩
        replace H:(mosaicref01_Pad.l0 k2 a0 y128)=some r:=by first|(rw [hy128];with_reducible exact H)|(have H2_:=(Option.bind_some _ _).symm.trans H;rw [hy128];with_reducible exact H2_)|(have H2_:=(Option.bind_some _ _).symm.trans H;with_reducible exact H2_)|with_reducible exact H|(rw [hy128];exact H)|exact H
        have Ny128:=Aside0.mk hy128
        clear hy128
        have H':=Aside0.mk H
        clear H
        obtain ⟨Ao16,co16,eo16⟩:=Kd.R_slice HO_3.out
        subst eo16
        go_wp2_with (first|((with_reducible refine gate_builtin (b:=.append) (xs:=#[.tmp 19,.tmp 20]) rfl ?_);at_builtin;refine Kd.R_append (Kd.int .u8) (w0:=w) w.heap.size rfl (.tmp 19) (.tmp 20) 47 5 (.int .u8 0) 1 rfl Try.underlying47 info5 rfl (by decide) (by omega) (.slice Ao16 x3_2.length co16) x3_2 0 [.int .u8 0] (fun _=>True) (fun _=>False) rfl rfl ?aP (fun _ hk=>hk.elim) ?aF ?aO ?aB ?aS ?aL ?_;(case aP=>exact rfl);(case aB=>exact (by repeat (first|(with_reducible first|exact HB.out|apply below_alloc|apply pw_below_drewN|apply below_drew1)|exact HB.out)));(case aF=>exact (fun _ _=>trivial));(case aO=>exact (by (with_reducible repeat (first|apply Kd.R_alloc|apply Kd.R_drewN|apply Kd.R_drew));exact HO_3.out));(case aS=>exact (below_size (by repeat (first|(with_reducible first|exact HB.out|apply below_alloc|apply pw_below_drewN|apply below_drew1)|exact HB.out))));(case aL=>have:=LMc15.out;omega);intro v129 w17 ho hb hg hat;rw [← Ny128.out] at ho;have n0_:=Aside0.mk (hb);have n1_:=Aside0.mk (ho);clear HB;clear HO_3;have HB:=n0_;have HO130:=n1_;clear n0_ n1_;clear ho hb hg hat))
        go_roundg k2
        case measure=>have:=HJ1.out;have:=HK2.out;omega
        case rel=>exact ⟨(y128),H',⟨by have:=HJ1.out;have:=HK2.out;omega⟩,⟨by (with_reducible repeat (first|apply Kd.R_alloc|apply Kd.R_drewN|apply Kd.R_drew));exact HO130.out⟩,⟨by repeat (first|(with_reducible first|exact HB.out|apply below_alloc|apply pw_below_drewN|apply below_drew1)|exact HB.out)⟩⟩
       ·
        rw [if_neg c15] at H
        exact absurd H (by simp)
end Go.Proofs.Ytelcaepenfjloaa.Print
/-! #### Pr86 -/
namespace Go.Proofs.Ytelcaepenfjloaa.Print
open Go.RowKit Go.Proofs.YtelcaepenfjloaaW.PrintWords Go.Proofs.YtelcaepenfjloaaW.PrintLast Go.Proofs.YtelcaepenfjloaaW.PrintMore
attribute [local go_sem] max2_int min2_int max_two min_two max_three min_three max_four min_four
set_option linter.unusedVariables false
set_option linter.unusedSimpArgs false
/-! ### mosaicref01_rotr: function 86 -/
def mosaicref01_rotr.f (a0:Int) (a1:Int):Option (Int):=if 0≤a1 then (if 0≤(IntKind.u64.wrap (32 - a1)) then (some (Go.bits .or .u32 (shr .u32 a0 a1) (shl .u32 a0 (IntKind.u64.wrap (32 - a1))))) else (none)) else (none)
set_option maxHeartbeats 8000000 in
set_option maxRecDepth 100000 in
theorem mosaicref01_rotr.calls (a0:Int) (a1:Int) (r:Int) (w:World) (h:mosaicref01_rotr.f a0 a1=some r) :
  Calls Try.prog 86 #[.int .u32 a0,.int .u64 a1] w fun e w'=>e=.returned (.int .u32 r)∧Drawn0 w w':=by
 have H:(if 0≤a1 then (if 0≤(IntKind.u64.wrap (32 - a1)) then (some (Go.bits .or .u32 (shr .u32 a0 a1) (shl .u32 a0 (IntKind.u64.wrap (32 - a1))))) else (none)) else (none))=some r:=h
 clear h
 by_cases c3:0≤a1
 ·
  rw [if_pos c3] at H
  have c3b0:=eq_true c3
  have c3b1:decide (0≤a1)=true:=decide_eq_true c3
  clear c3
  obtain ⟨ji4,hji4⟩:∃ j_:Int,(shr .u32 a0 a1)=j_:=⟨_,rfl⟩
  replace H:(if 0≤(IntKind.u64.wrap (32 - a1)) then (some (Go.bits .or .u32 (ji4) (shl .u32 a0 (IntKind.u64.wrap (32 - a1))))) else (none))=some r:=by first|(rw [hji4] at H;exact H)|(simp only [hji4] at H ⊢;exact H)
  have hji4_:(a0 / 2 ^ min a1.toNat 32)=ji4:=hji4
  have hji4z:a1≤32→(a0 / 2 ^ a1.toNat)=ji4:=shr_small hji4
  obtain ⟨ji5,hji5⟩:∃ j_:Int,(IntKind.u64.wrap (32 - a1))=j_:=⟨_,rfl⟩
  replace H:(if 0≤(ji5) then (some (Go.bits .or .u32 (ji4) (shl .u32 a0 (ji5)))) else (none))=some r:=by first|(rw [hji5] at H;exact H)|(simp only [hji5] at H ⊢;exact H)
  by_cases c6:0≤(ji5)
  ·
   rw [if_pos c6] at H
   have c6b0:=eq_true c6
   have c6b1:decide (0≤(ji5))=true:=decide_eq_true c6
   clear c6
   obtain ⟨ji7,hji7⟩:∃ j_:Int,(shl .u32 a0 (ji5))=j_:=⟨_,rfl⟩
   replace H:(some (Go.bits .or .u32 (ji4) (ji7)))=some r:=by first|(rw [hji7] at H;exact H)|(simp only [hji7] at H ⊢;exact H)
   have hji7_:(IntKind.u32.wrap (a0 * 2 ^ min (ji5).toNat 32))=ji7:=hji7
   have hji7z:(ji5)≤32→(IntKind.u32.wrap (a0 * 2 ^ (ji5).toNat))=ji7:=shl_small hji7
   obtain rfl:=Option.some.inj H
   go_enter Try.func86,Try.ntmps86
   go_wp2
   go_ret
   exact ⟨by first|rfl|(simp;done)|(simp only [← hji4,← hji5,← hji7] <;> (first|rfl|simp))|(simp [*];done),by repeat (first|exact Drawn0.refl _|apply Drawn0.step)⟩
  ·
   rw [if_neg c6] at H
   exact absurd H (by simp)
 ·
  rw [if_neg c3] at H
  exact absurd H (by simp)
end Go.Proofs.Ytelcaepenfjloaa.Print
