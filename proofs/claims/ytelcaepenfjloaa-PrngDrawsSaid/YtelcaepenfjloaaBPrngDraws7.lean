/- The proof of the statement PrngDraws of the seat, part 7 of 7: the functions that it reaches, as plain functions, with the walks that show it, and what they come to; the last part ends in the row. No condition beyond the statement's own. -/
import Derived.Laws.BitsLemmas
import Derived.Test.YtelcaepenfjloaaRows
import Derived.WalkKit
import Derived.ProofKit
import Derived.OpenShut
import Derived.ShutString
import Derived.ChangeOld
import Derived.Below
import Derived.SizedLaws
import Derived.Carry
import Derived.Test.YtelcaepenfjloaaBPrngDraws1
import Derived.Test.YtelcaepenfjloaaBPrngDraws2
import Derived.Test.YtelcaepenfjloaaBPrngDraws3
import Derived.Test.YtelcaepenfjloaaBPrngDraws4
import Derived.Test.YtelcaepenfjloaaBPrngDraws5
import Derived.Test.YtelcaepenfjloaaBPrngDraws6
/-! #### PureSha -/
/- SHA-256 in plain words: the reference's sum is the program's. -/
namespace Go.Proofs.Ytelcaepenfjloaa.Pure
open Go.RowKit Go.Proofs.Ytelcaepenfjloaa.Print Go.Proofs.YtelcaepenfjloaaW.PrintWords Go.Proofs.YtelcaepenfjloaaW.PrintLast Go.Proofs.YtelcaepenfjloaaW.PrintMore
set_option linter.unusedVariables false
set_option linter.unusedSimpArgs false
theorem bits_or_comm (k:IntKind) (x y:Int):Go.bits .or k x y=Go.bits .or k y x:=by
 simp only [Go.bits,BitVec.or_comm]
theorem ref_rotr_7 (x:Int):mosaicref01_rotr.f x 7=some (rotrN x 7):=by
 have h:=rotr_7 x
 unfold sha_rotr.f bits_RotateLeft32.f at h
 have e1:Go.bits .and .u64 (IntKind.u64.wrap (wrap64 (-7))) 31=25:=by decide +kernel
 have e2:IntKind.u64.wrap (32 - 25)=7:=by decide +kernel
 have e3:IntKind.u64.wrap (32 - 7)=25:=by decide +kernel
 rw [e1,if_pos (by omega),e2,if_pos (by omega)] at h
 unfold mosaicref01_rotr.f
 rw [if_pos (by omega),e3,if_pos (by omega),bits_or_comm]
 exact h
theorem ref_rotr_18 (x:Int):mosaicref01_rotr.f x 18=some (rotrN x 18):=by
 have h:=rotr_18 x
 unfold sha_rotr.f bits_RotateLeft32.f at h
 have e1:Go.bits .and .u64 (IntKind.u64.wrap (wrap64 (-18))) 31=14:=by decide +kernel
 have e2:IntKind.u64.wrap (32 - 14)=18:=by decide +kernel
 have e3:IntKind.u64.wrap (32 - 18)=14:=by decide +kernel
 rw [e1,if_pos (by omega),e2,if_pos (by omega)] at h
 unfold mosaicref01_rotr.f
 rw [if_pos (by omega),e3,if_pos (by omega),bits_or_comm]
 exact h
theorem ref_rotr_17 (x:Int):mosaicref01_rotr.f x 17=some (rotrN x 17):=by
 have h:=rotr_17 x
 unfold sha_rotr.f bits_RotateLeft32.f at h
 have e1:Go.bits .and .u64 (IntKind.u64.wrap (wrap64 (-17))) 31=15:=by decide +kernel
 have e2:IntKind.u64.wrap (32 - 15)=17:=by decide +kernel
 have e3:IntKind.u64.wrap (32 - 17)=15:=by decide +kernel
 rw [e1,if_pos (by omega),e2,if_pos (by omega)] at h
 unfold mosaicref01_rotr.f
 rw [if_pos (by omega),e3,if_pos (by omega),bits_or_comm]
 exact h
theorem ref_rotr_19 (x:Int):mosaicref01_rotr.f x 19=some (rotrN x 19):=by
 have h:=rotr_19 x
 unfold sha_rotr.f bits_RotateLeft32.f at h
 have e1:Go.bits .and .u64 (IntKind.u64.wrap (wrap64 (-19))) 31=13:=by decide +kernel
 have e2:IntKind.u64.wrap (32 - 13)=19:=by decide +kernel
 have e3:IntKind.u64.wrap (32 - 19)=13:=by decide +kernel
 rw [e1,if_pos (by omega),e2,if_pos (by omega)] at h
 unfold mosaicref01_rotr.f
 rw [if_pos (by omega),e3,if_pos (by omega),bits_or_comm]
 exact h
theorem ref_rotr_6 (x:Int):mosaicref01_rotr.f x 6=some (rotrN x 6):=by
 have h:=rotr_6 x
 unfold sha_rotr.f bits_RotateLeft32.f at h
 have e1:Go.bits .and .u64 (IntKind.u64.wrap (wrap64 (-6))) 31=26:=by decide +kernel
 have e2:IntKind.u64.wrap (32 - 26)=6:=by decide +kernel
 have e3:IntKind.u64.wrap (32 - 6)=26:=by decide +kernel
 rw [e1,if_pos (by omega),e2,if_pos (by omega)] at h
 unfold mosaicref01_rotr.f
 rw [if_pos (by omega),e3,if_pos (by omega),bits_or_comm]
 exact h
theorem ref_rotr_11 (x:Int):mosaicref01_rotr.f x 11=some (rotrN x 11):=by
 have h:=rotr_11 x
 unfold sha_rotr.f bits_RotateLeft32.f at h
 have e1:Go.bits .and .u64 (IntKind.u64.wrap (wrap64 (-11))) 31=21:=by decide +kernel
 have e2:IntKind.u64.wrap (32 - 21)=11:=by decide +kernel
 have e3:IntKind.u64.wrap (32 - 11)=21:=by decide +kernel
 rw [e1,if_pos (by omega),e2,if_pos (by omega)] at h
 unfold mosaicref01_rotr.f
 rw [if_pos (by omega),e3,if_pos (by omega),bits_or_comm]
 exact h
theorem ref_rotr_25 (x:Int):mosaicref01_rotr.f x 25=some (rotrN x 25):=by
 have h:=rotr_25 x
 unfold sha_rotr.f bits_RotateLeft32.f at h
 have e1:Go.bits .and .u64 (IntKind.u64.wrap (wrap64 (-25))) 31=7:=by decide +kernel
 have e2:IntKind.u64.wrap (32 - 7)=25:=by decide +kernel
 have e3:IntKind.u64.wrap (32 - 25)=7:=by decide +kernel
 rw [e1,if_pos (by omega),e2,if_pos (by omega)] at h
 unfold mosaicref01_rotr.f
 rw [if_pos (by omega),e3,if_pos (by omega),bits_or_comm]
 exact h
theorem ref_rotr_2 (x:Int):mosaicref01_rotr.f x 2=some (rotrN x 2):=by
 have h:=rotr_2 x
 unfold sha_rotr.f bits_RotateLeft32.f at h
 have e1:Go.bits .and .u64 (IntKind.u64.wrap (wrap64 (-2))) 31=30:=by decide +kernel
 have e2:IntKind.u64.wrap (32 - 30)=2:=by decide +kernel
 have e3:IntKind.u64.wrap (32 - 2)=30:=by decide +kernel
 rw [e1,if_pos (by omega),e2,if_pos (by omega)] at h
 unfold mosaicref01_rotr.f
 rw [if_pos (by omega),e3,if_pos (by omega),bits_or_comm]
 exact h
theorem ref_rotr_13 (x:Int):mosaicref01_rotr.f x 13=some (rotrN x 13):=by
 have h:=rotr_13 x
 unfold sha_rotr.f bits_RotateLeft32.f at h
 have e1:Go.bits .and .u64 (IntKind.u64.wrap (wrap64 (-13))) 31=19:=by decide +kernel
 have e2:IntKind.u64.wrap (32 - 19)=13:=by decide +kernel
 have e3:IntKind.u64.wrap (32 - 13)=19:=by decide +kernel
 rw [e1,if_pos (by omega),e2,if_pos (by omega)] at h
 unfold mosaicref01_rotr.f
 rw [if_pos (by omega),e3,if_pos (by omega),bits_or_comm]
 exact h
theorem ref_rotr_22 (x:Int):mosaicref01_rotr.f x 22=some (rotrN x 22):=by
 have h:=rotr_22 x
 unfold sha_rotr.f bits_RotateLeft32.f at h
 have e1:Go.bits .and .u64 (IntKind.u64.wrap (wrap64 (-22))) 31=10:=by decide +kernel
 have e2:IntKind.u64.wrap (32 - 10)=22:=by decide +kernel
 have e3:IntKind.u64.wrap (32 - 22)=10:=by decide +kernel
 rw [e1,if_pos (by omega),e2,if_pos (by omega)] at h
 unfold mosaicref01_rotr.f
 rw [if_pos (by omega),e3,if_pos (by omega),bits_or_comm]
 exact h
theorem wraps_u32 (n:Int) (h₀:0≤n) (h₁:n < 2 ^ 32):IntKind.u32.wrap n=n:=by rw [IntKind.wrap_u32];omega
theorem u32_or (i:Nat) (x y:Int) (hx₀:0≤x) (hx:x % 2 ^ i=0) (hx₁:x < 2 ^ 32) (hy₀:0≤y) (hy:y < 2 ^ i) (hi:y < 2 ^ 32):Go.bits .or .u32 x y=x+y :=
 bits_join .u32 32 (by decide) wraps_u32 i x y hx₀ hx hx₁ hy₀ hy hi
/-- A word of a block. -/
theorem word_eq (b:ByteArray) (i:Nat) (h:4 * i+3 < b.size) (hb:b.size≤9223372036854775807) :
  wordN (bytesOf b) (4 * (i:Int))=((((((((bt b (4 * (i:Int))) % 4294967296) * 16777216) % 4294967296)+((((bt b (4 * (i:Int)+1)) % 4294967296) * 65536) % 4294967296)) % 4294967296)+((((bt b (4 * (i:Int)+2)) % 4294967296) * 256) % 4294967296)) % 4294967296+((bt b (4 * (i:Int)+3)) % 4294967296)) % 4294967296:=by
 have hw:=word_some (bytesOf b) (4 * (i:Int)) (by omega) (by rw [bytesOf_length];omega) (by rw [bytesOf_length];exact hb)
 unfold sha_word.f at hw
 have hl:=bytesOf_length b
 have e1:wrap64 (4 * (i:Int)+1)=4 * (i:Int)+1:=by unfold wrap64;omega
 have e2:wrap64 (4 * (i:Int)+2)=4 * (i:Int)+2:=by unfold wrap64;omega
 have e3:wrap64 (4 * (i:Int)+3)=4 * (i:Int)+3:=by unfold wrap64;omega
 rw [e1,e2,e3,hl,if_pos (by omega),if_pos (by omega),if_pos (by omega),if_pos (by omega),if_pos (by omega),if_pos (by omega),if_pos (by omega),if_pos (by omega)] at hw
 have hw:=(Option.some.inj hw).symm
 rw [hw,rd_bytesOf,rd_bytesOf,rd_bytesOf,rd_bytesOf]
 have r0:=bt_range b (4 * (i:Int))
 have r1:=bt_range b (4 * (i:Int)+1)
 have r2:=bt_range b (4 * (i:Int)+2)
 have r3:=bt_range b (4 * (i:Int)+3)
 generalize bt b (4 * (i:Int))=x0 at r0 ⊢
 generalize bt b (4 * (i:Int)+1)=x1 at r1 ⊢
 generalize bt b (4 * (i:Int)+2)=x2 at r2 ⊢
 generalize bt b (4 * (i:Int)+3)=x3 at r3 ⊢
 rw [u32_or 24 (x0 % 4294967296 * 16777216 % 4294967296) (x1 % 4294967296 * 65536 % 4294967296) (by omega) (by omega) (by omega) (by omega) (by omega) (by omega),
  u32_or 16 _ (x2 % 4294967296 * 256 % 4294967296) (by omega) (by omega) (by omega) (by omega) (by omega) (by omega),
  u32_or 8 _ (x3 % 4294967296) (by omega) (by omega) (by omega) (by omega) (by omega) (by omega)]
 omega
theorem getD_pad (y:List Int) (n i:Nat) (h:i < y.length):(y ++ List.replicate n 0).getD i 0=y.getD i 0:=by
 simp [List.getD_eq_getElem?_getD,List.getElem?_append_left h]
theorem set_pad (y:List Int) (n:Nat) (v:Int):(y ++ List.replicate (n+1) 0).set y.length v=(y ++ [v]) ++ List.replicate n 0:=by
 rw [List.set_append_right _ _ (Nat.le_refl _),Nat.sub_self,List.replicate_succ,List.set_cons_zero,List.append_assoc]
 rfl
theorem words_l1 (l:List Int) (d:Nat):∀ (y:List Int),16≤y.length→y.length+d=64→Ev (fun k=>mosaicref01_Words.l1 k y (y.length:Int)) (schedL l d y.length (y ++ List.replicate d 0)):=by
 induction d with
 | zero =>
  intro y h0 h
  refine Ev.succ ?_
  simp only [mosaicref01_Words.l1,schedL]
  refine Ev.neg (by omega) (Ev.some_ (by simp))
 | succ d ih =>
  intro y h0 h
  refine Ev.succ ?_
  simp only [mosaicref01_Words.l1,schedL]
  have w15:wrap64 ((y.length:Int) - 15)=((y.length - 15:Nat):Int):=by unfold wrap64;omega
  have w2:wrap64 ((y.length:Int) - 2)=((y.length - 2:Nat):Int):=by unfold wrap64;omega
  have w7:wrap64 ((y.length:Int) - 7)=((y.length - 7:Nat):Int):=by unfold wrap64;omega
  have w16:wrap64 ((y.length:Int) - 16)=((y.length - 16:Nat):Int):=by unfold wrap64;omega
  rw [w15,w2,w7,w16,wrap_succ _ (by omega),ref_rotr_7,ref_rotr_18,ref_rotr_17,ref_rotr_19]
  simp only [Option.bind_some]
  refine Ev.pos (by omega) (Ev.pos (by omega) (Ev.pos (by omega) (Ev.pos (by omega) (Ev.pos (by omega) (Ev.pos (by omega) (Ev.pos (by omega) (Ev.pos (by omega) (Ev.pos (by omega) (Ev.pos (by omega) ?_)))))))))
  rw [set_pad,sdW_ge _ _ _ (by omega),getD_pad _ _ _ (by omega),getD_pad _ _ _ (by omega),getD_pad _ _ _ (by omega),getD_pad _ _ _ (by omega)]
  simp only [rd_nat]
  have key:∀ v v':Int,v=v'→Ev (fun k=>mosaicref01_Words.l1 k (y ++ [v]) ((y.length+1:Nat):Int)) (schedL l d (y.length+1) ((y ++ [v']) ++ List.replicate d 0)):=by
   rintro v v' rfl
   have:=ih (y ++ [v]) (by simp;omega) (by simp;omega)
   rw [List.length_append,List.length_singleton] at this
   exact this
  refine key _ _ ?_
  omega
theorem words_l0 (b:ByteArray) (hb:b.size=64) (d:Nat):∀ (y:List Int),y.length+d=16→Ev (fun k=>mosaicref01_Words.l0 k b y (y.length:Int)) (schedL (bytesOf b) (d+48) y.length (y ++ List.replicate (d+48) 0)):=by
 induction d with
 | zero =>
  intro y h
  refine Ev.succ ?_
  simp only [mosaicref01_Words.l0]
  refine Ev.neg (by omega) ?_
  have:=words_l1 (bytesOf b) 48 y (by omega) (by omega)
  rw [show (y.length:Int)=16 by omega] at this
  simpa using this
 | succ d ih =>
  intro y h
  refine Ev.succ ?_
  simp only [mosaicref01_Words.l0]
  have w0:wrap64 (4 * (y.length:Int))=4 * (y.length:Int):=by unfold wrap64;omega
  have w1:wrap64 (4 * (y.length:Int)+1)=4 * (y.length:Int)+1:=by unfold wrap64;omega
  have w2:wrap64 (4 * (y.length:Int)+2)=4 * (y.length:Int)+2:=by unfold wrap64;omega
  have w3:wrap64 (4 * (y.length:Int)+3)=4 * (y.length:Int)+3:=by unfold wrap64;omega
  rw [w0,w1,w2,w3,wrap_succ _ (by omega)]
  refine Ev.pos (by omega) (Ev.pos (by omega) (Ev.pos (by omega) (Ev.pos (by omega) (Ev.pos (by omega) (Ev.pos (by omega) (Ev.pos (by omega) (Ev.pos (by omega) (Ev.pos (by omega) (Ev.pos (by omega) ?_)))))))))
  rw [show d+1+48=(d+48)+1 by omega,schedL,set_pad,sdW,if_pos (by omega),word_eq b y.length (by omega) (by omega)]
  have key:∀ v:Int,Ev (fun k=>mosaicref01_Words.l0 k b (y ++ [v]) ((y.length+1:Nat):Int)) (schedL (bytesOf b) (d+48) (y.length+1) ((y ++ [v]) ++ List.replicate (d+48) 0)):=by
   intro v
   have:=ih (y ++ [v]) (by simp;omega)
   rw [List.length_append,List.length_singleton] at this
   exact this
  exact key _
theorem words_ev (b:ByteArray) (hb:b.size=64):Ev (fun k=>mosaicref01_Words.f k b) (sched (bytesOf b)):=words_l0 b hb 16 [] rfl
theorem max_u32:IntKind.u32.max=4294967295:=by decide
theorem mix_l0 (st kk ww:List Int) (hs:st.length=8) (hk:kk.length=64) (hw:ww.length=64) (d:Nat):∀ (t:Nat) (a b c e f g h i:Int),t+d=64 →
  Ev (fun k=>mosaicref01_Mix.l0 k st ww kk a b c e f g h i (t:Int)) (mixAdd st 8 0 (mixL kk ww d t [a,b,c,e,f,g,h,i])):=by
 induction d with
 | zero =>
  intro t a b c e f g h i ht
  obtain ⟨s0,s1,s2,s3,s4,s5,s6,s7,rfl⟩:=list8 st hs
  refine Ev.succ ?_
  simp only [mosaicref01_Mix.l0]
  refine Ev.neg (by omega) (Ev.pos (by simp) (Ev.pos (by simp) (Ev.pos (by simp) (Ev.pos (by simp) (Ev.pos (by simp) (Ev.pos (by simp) (Ev.pos (by simp) (Ev.pos (by simp) (Ev.some_ ?_)))))))))
  have:mixAdd [s0,s1,s2,s3,s4,s5,s6,s7] 8 0 (mixL kk ww 0 t [a,b,c,e,f,g,h,i])=[(a+s0) % 4294967296,(b+s1) % 4294967296,(c+s2) % 4294967296,(e+s3) % 4294967296,(f+s4) % 4294967296,(g+s5) % 4294967296,(h+s6) % 4294967296,(i+s7) % 4294967296]:=rfl
  rw [this]
  show [(s0+a) % 4294967296,(s1+b) % 4294967296,(s2+c) % 4294967296,(s3+e) % 4294967296,(s4+f) % 4294967296,(s5+g) % 4294967296,(s6+h) % 4294967296,(s7+i) % 4294967296]=_
  simp only [Int.add_comm]
 | succ d ih =>
  intro t a b c e f g h i ht
  refine Ev.succ ?_
  simp only [mosaicref01_Mix.l0]
  rw [ref_rotr_6,ref_rotr_11,ref_rotr_25,ref_rotr_2,ref_rotr_13,ref_rotr_22]
  simp only [Option.bind_some]
  refine Ev.pos (by omega) (Ev.pos (by omega) (Ev.pos (by omega) (Ev.pos (by omega) ?_)))
  rw [wrap_succ _ (by omega)]
  have key:∀ x x' y y':Int,x=x'→y=y'→Ev (fun k=>mosaicref01_Mix.l0 k st ww kk x a b c y f g h ((t+1:Nat):Int)) (mixAdd st 8 0 (mixL kk ww d (t+1) [x',a,b,c,y',f,g,h])):=by
   rintro x _ y _ rfl rfl
   exact ih (t+1) _ _ _ _ _ _ _ _ (by omega)
  rw [mixL,mixStep]
  refine key _ _ _ _ ?_ ?_
  ·
   unfold s1N chN s0N majN
   rw [max_u32,rd_nat,rd_nat]
   omega
  ·
   unfold s1N chN
   rw [max_u32,rd_nat,rd_nat]
   omega
theorem mix_ev (st:List Int) (b:ByteArray) (hs:st.length=8) (hb:b.size=64):Ev (fun k=>mosaicref01_Mix.f k st b) (mixB st (bytesOf b)):=by
 unfold mosaicref01_Mix.f
 refine Ev.bind (words_ev b hb) (Ev.call (show mosaicref01_K.f=some constK from rfl) ?_)
 have:=mix_l0 st constK (sched (bytesOf b)) hs constK_len (sched_len _) 64 0 (rd st 0) (rd st 1) (rd st 2) (rd st 3) (rd st 4) (rd st 5) (rd st 6) (rd st 7) rfl
 refine Ev.pos (by omega) (Ev.pos (by omega) (Ev.pos (by omega) (Ev.pos (by omega) (Ev.pos (by omega) (Ev.pos (by omega) (Ev.pos (by omega) (Ev.pos (by omega) (this.to ?_))))))))
 obtain ⟨s0,s1,s2,s3,s4,s5,s6,s7,rfl⟩:=list8 st hs
 rfl
/-! ### The padding, the sum -/
theorem refpad_l0 (n:Int) (h0:0≤n) (h1:n≤65536) (d:Nat):∀ j:Nat,((119 - n % 64) % 64).toNat=j+d→Ev (fun k=>mosaicref01_Pad.l0 k n ([128] ++ List.replicate j 0)) (padB n):=by
 induction d with
 | zero =>
  intro j hj
  refine Ev.succ ?_
  simp only [mosaicref01_Pad.l0]
  have hl:(([128] ++ List.replicate j (0:Int)).length:Int)=1+j:=by simp;omega
  have e1:wrap64 (n+(1+(j:Int)))=n+(1+j):=by unfold wrap64;omega
  have e2:wrap64 (n+(1+(j:Int))+8)=n+(1+j)+8:=by unfold wrap64;omega
  have e3:Int.tmod (n+(1+(j:Int))+8) 64=(n+(1+j)+8) % 64:=Int.tmod_eq_emod_of_nonneg (by omega)
  have e4:wrap64 (8 * n)=8 * n:=by unfold wrap64;omega
  rw [hl,e1,e2,e3,e4]
  have q1:Int.tdiv (8 * n) 16777216=8 * n / 16777216:=Int.tdiv_eq_ediv_of_nonneg (by omega)
  have q2:Int.tdiv (8 * n) 65536=8 * n / 65536:=Int.tdiv_eq_ediv_of_nonneg (by omega)
  have q3:Int.tdiv (8 * n) 256=8 * n / 256:=Int.tdiv_eq_ediv_of_nonneg (by omega)
  rw [q1,q2,q3]
  have u1:wrap64 (8 * n / 16777216)=8 * n / 16777216:=by unfold wrap64;omega
  have u2:wrap64 (8 * n / 65536)=8 * n / 65536:=by unfold wrap64;omega
  have u3:wrap64 (8 * n / 256)=8 * n / 256:=by unfold wrap64;omega
  rw [u1,u2,u3]
  have m1:Int.tmod (8 * n / 65536) 256=8 * n / 65536 % 256:=Int.tmod_eq_emod_of_nonneg (by omega)
  have m2:Int.tmod (8 * n / 256) 256=8 * n / 256 % 256:=Int.tmod_eq_emod_of_nonneg (by omega)
  have m3:Int.tmod (8 * n) 256=8 * n % 256:=Int.tmod_eq_emod_of_nonneg (by omega)
  rw [m1,m2,m3]
  refine Ev.pos (by omega) (Ev.some_bind (Ev.pos (by simp;omega) (Ev.some_ ?_)))
  unfold padB padL
  rw [show ((119 - n % 64) % 64).toNat=j by omega]
  congr 1
  congr 1
  simp
 | succ d ih =>
  intro j hj
  refine Ev.succ ?_
  simp only [mosaicref01_Pad.l0]
  have hl:(([128] ++ List.replicate j (0:Int)).length:Int)=1+j:=by simp;omega
  have e1:wrap64 (n+(1+(j:Int)))=n+(1+j):=by unfold wrap64;omega
  have e2:wrap64 (n+(1+(j:Int))+8)=n+(1+j)+8:=by unfold wrap64;omega
  have e3:Int.tmod (n+(1+(j:Int))+8) 64=(n+(1+j)+8) % 64:=Int.tmod_eq_emod_of_nonneg (by omega)
  rw [hl,e1,e2,e3]
  refine Ev.neg (by omega) (Ev.pos (by simp;omega) ?_)
  have:=ih (j+1) (by omega)
  rw [List.replicate_succ',← List.append_assoc] at this
  exact this
theorem refpad_ev (n:Int) (h0:0≤n) (h1:n≤65536):Ev (fun k=>mosaicref01_Pad.f k n) (padB n):=by
 unfold mosaicref01_Pad.f
 refine Ev.neg (by omega) ?_
 rw [decide_eq_false (show ¬ n > 65536 by omega)]
 refine Ev.succ ?_
 simp only [mosaicref01_Pad.j0]
 exact Ev.neg (by simp) (refpad_l0 n h0 h1 _ 0 (Nat.zero_add _).symm)
theorem bytesOf_append (s t:ByteArray):bytesOf (s ++ t)=bytesOf s ++ bytesOf t:=by
 unfold bytesOf
 rw [ByteArray.data_append,Array.toList_append,List.map_append]
theorem bytesOf_extract (s:ByteArray) (a b:Nat):bytesOf (s.extract a b)=((bytesOf s).drop a).take (b - a):=by
 unfold bytesOf
 rw [ByteArray.data_extract,Array.toList_extract,List.map_take,List.map_drop]
theorem blocks_more:∀ (k k':Nat) (st l:List Int),l.length≤64 * k→l.length≤64 * k'→blocks k st l=blocks k' st l
 | 0,0,_,_,_,_=>rfl
 | 0,k'+1,st,l,h,_=>by rw [blocks,blocks,if_neg (by omega)]
 | k+1,0,st,l,_,h=>by rw [blocks,blocks,if_neg (by omega)]
 | k+1,k'+1,st,l,h,h'=>by
  rw [blocks,blocks,blocks_more k k' _ _ (by rw [List.length_drop];omega) (by rw [List.length_drop];omega)]
theorem hashGo_blocks:∀ (k:Nat) (st p:List Int) (s:ByteArray) (pad:List Int) (K:Nat),s.size < k→p.length < 64→pad.length≤72→p.length+s.size+pad.length≤64 * K →
  blocks 3 (hashGo k st p s).1 ((hashGo k st p s).2 ++ pad)=blocks K st (p ++ bytesOf s ++ pad)
 | 0,st,p,s,pad,K,h,_,_,_=>by omega
 | k+1,st,p,s,pad,K,h,hp,hd,hK=>by
  have hl:(p ++ bytesOf (s.extract 0 (min (64 - p.length) s.size))).length=p.length+min (64 - p.length) s.size:=by
   rw [List.length_append,bytesOf_length]
   simp
  have hs:=bytesOf_length s
  rw [hashGo]
  by_cases c:(p ++ bytesOf (s.extract 0 (min (64 - p.length) s.size))).length=64
  ·
   rw [if_pos c]
   have h2:(s.extract (min (64 - p.length) s.size) s.size).size=s.size - min (64 - p.length) s.size:=by simp
   obtain ⟨K,rfl⟩:∃ m,K=m+1:=⟨K - 1,by omega⟩
   rw [hashGo_blocks k _ [] _ pad K (by omega) (by simp) hd (by simp only [List.length_nil];omega)]
   have hm:min (64 - p.length) s.size=64 - p.length:=by omega
   rw [blocks,if_pos (by simp only [List.length_append];omega)]
   rw [hm,bytesOf_extract,bytesOf_extract,List.drop_zero,Nat.sub_zero,List.nil_append]
   have e1:((bytesOf s).drop (64 - p.length)).take (s.size - (64 - p.length))=(bytesOf s).drop (64 - p.length):=List.take_of_length_le (by rw [List.length_drop,hs];omega)
   rw [e1]
   have e2:(p ++ bytesOf s ++ pad).take 64=p ++ (bytesOf s).take (64 - p.length):=by
    rw [List.append_assoc,List.take_append,List.take_of_length_le (by omega),List.take_append,show 64 - p.length - (bytesOf s).length=0 by omega,List.take_zero,List.append_nil]
   have e3:(p ++ bytesOf s ++ pad).drop 64=(bytesOf s).drop (64 - p.length) ++ pad:=by
    rw [List.append_assoc,List.drop_append,List.drop_of_length_le (by omega),List.nil_append,List.drop_append,show 64 - p.length - (bytesOf s).length=0 by omega,List.drop_zero]
   rw [e2,e3]
  ·
   rw [if_neg c]
   have hm:min (64 - p.length) s.size=s.size:=by omega
   have e:bytesOf (s.extract 0 (min (64 - p.length) s.size))=bytesOf s:=by
    rw [hm,bytesOf_extract,List.drop_zero,Nat.sub_zero]
    exact List.take_of_length_le (by omega)
   rw [e]
   refine blocks_more _ _ _ _ ?_ ?_
   ·
    simp only [List.length_append]
    omega
   ·
    simp only [List.length_append]
    omega
theorem bytesOf_strOfNums (l:List Int) (h:∀ x∈l,0≤x∧x≤255):bytesOf (strOfNums l)=l:=by
 unfold bytesOf
 rw [strOfNums_data,List.map_map]
 conv=>rhs;rw [← List.map_id l]
 refine List.map_congr_left fun x hx=>?_
 have:=h x hx
 have e:(UInt8.ofNat x.toNat).toNat=x.toNat:=UInt8.toNat_ofNat_of_lt' (by show x.toNat < 256;omega)
 simp only [Function.comp,e,id]
 omega
/-- The sum, block by block. -/
theorem shaSum_eq (s:ByteArray) (h:s.size≤65536) (K:Nat) (hK:s.size+72≤64 * K):shaSum s=strOfNums (outB (blocks K startS (bytesOf s ++ padL s.size))):=by
 have hl:=padL_length (s.size:Int) (by omega)
 unfold shaSum
 rw [padB,bytesOf_strOfNums _ (padL_range _),hashGo_blocks (s.size+1) startS [] s (padL s.size) K (by omega) (by simp) (by omega) (by simp only [List.length_nil];omega),List.nil_append]
theorem refsum_l1 (st acc:List Int) (hs:st.length=8) (d:Nat):∀ (i:Nat) (acc:List Int),i+d=8→acc.length=4 * i→Ev (fun k=>mosaicref01_Sum.l1 k st acc (i:Int)) (strOfNums (acc ++ outB (st.drop i))):=by
 induction d with
 | zero =>
  intro i acc hi ha
  refine Ev.succ ?_
  simp only [mosaicref01_Sum.l1]
  refine Ev.neg (by omega) (Ev.some_ ?_)
  rw [List.drop_of_length_le (by omega)]
  simp [outB]
 | succ d ih =>
  intro i acc hi ha
  refine Ev.succ ?_
  simp only [mosaicref01_Sum.l1]
  refine Ev.pos (by omega) (Ev.pos (by omega) (Ev.some_bind (Ev.pos (by simp;omega) ?_)))
  rw [wrap_succ _ (by omega),outB_step st i (by omega),← List.append_assoc,rd_nat]
  exact ih (i+1) _ (by omega) (by simp;omega)
theorem refsum_l0 (t:ByteArray) (ht:t.size≤100000) (d:Nat):∀ (st:List Int) (i:Nat),t.size=i+64 * d→st.length=8→Ev (fun k=>mosaicref01_Sum.l0 k t st (i:Int)) (strOfNums (outB (blocks d st ((bytesOf t).drop i)))):=by
 induction d with
 | zero =>
  intro st i hi hs
  refine Ev.succ ?_
  simp only [mosaicref01_Sum.l0,blocks]
  refine Ev.neg (by omega) ?_
  have:=refsum_l1 st [] hs 8 0 [] rfl rfl
  simpa using this
 | succ d ih =>
  intro st i hi hs
  refine Ev.succ ?_
  simp only [mosaicref01_Sum.l0]
  have e1:wrap64 ((i:Int)+64)=((i+64:Nat):Int):=by unfold wrap64;omega
  have hl:=bytesOf_length t
  rw [e1]
  refine Ev.pos (by omega) (Ev.pos (by omega) (Ev.pos (by omega) (Ev.pos (by omega) ?_)))
  have hx:(t.extract ((i:Int)).toNat (((i+64:Nat):Int)).toNat).size=64:=by simp;omega
  have hm:=mix_ev st _ hs hx
  refine Ev.bind hm ?_
  have hb:bytesOf (t.extract ((i:Int)).toNat (((i+64:Nat):Int)).toNat)=((bytesOf t).drop i).take 64:=by
   rw [bytesOf_extract]
   congr 1
   omega
  rw [hb,blocks,if_pos (by rw [List.length_drop];omega),List.drop_drop]
  exact ih _ (i+64) (by omega) (mixB_len _ _ hs)
/-- The reference's sum is the program's. -/
theorem refsum_ev (s:ByteArray) (h:s.size≤65536):Ev (fun k=>mosaicref01_Sum.f k s) (shaSum s):=by
 have hp:=padB_size (s.size:Int) (by omega)
 have hz:(s ++ padB s.size).size=s.size+(padB s.size).size:=by rw [ByteArray.size_append]
 unfold mosaicref01_Sum.f
 refine Ev.neg (by omega) (Ev.bind (refpad_ev _ (by omega) (by omega)) (Ev.pos (by omega) (Ev.call (show mosaicref01_Start.f=some startS from rfl) ?_)))
 have:=refsum_l0 (s ++ padB s.size) (by omega) ((s ++ padB s.size).size / 64) startS 0 (by omega) rfl
 refine this.to ?_
 rw [shaSum_eq s h ((s.size+72) / 64+1) (by omega),List.drop_zero,bytesOf_append,padB,bytesOf_strOfNums _ (padL_range _)]
 have hl:=padL_length (s.size:Int) (by omega)
 have hb:=bytesOf_length s
 congr 2
 refine blocks_more _ _ _ _ ?_ ?_
 ·
  rw [List.length_append]
  rw [← padB,hz]
  omega
 ·
  rw [List.length_append]
  omega
theorem outB_length (st:List Int):(outB st).length=4 * st.length:=by
 induction st with
 | nil=>rfl
 | cons a l ih=>rw [outB,List.flatMap_cons,List.length_append,← outB,ih];simp;omega
theorem blocks_len:∀ (k:Nat) (st l:List Int),st.length=8→(blocks k st l).length=8
 | 0,_,_,h=>h
 | k+1,st,l,h=>by
  rw [blocks]
  split
  ·
   exact blocks_len k _ _ (mixB_len _ _ h)
  ·
   exact h
theorem shaSum_size (s:ByteArray):(shaSum s).size=32:=by
 unfold shaSum
 rw [strOfNums_size,outB_length,blocks_len _ _ _ (hashGo_len _ _ _ _ (by omega) (by simp) rfl).1]
theorem sha_f (s:ByteArray) (h:s.size≤65536):sha_Sum.f s=some (shaSum s):=if_pos h
end Go.Proofs.Ytelcaepenfjloaa.Pure
/-! #### PurePrng1 -/
/- prng in plain words: the bytes of a number, the blocks and the words of a seed. -/
namespace Go.Proofs.Ytelcaepenfjloaa.Pure
open Go.RowKit Go.Proofs.Ytelcaepenfjloaa.Print Go.Proofs.YtelcaepenfjloaaW.PrintWords Go.Proofs.YtelcaepenfjloaaW.PrintLast Go.Proofs.YtelcaepenfjloaaW.PrintMore
set_option linter.unusedVariables false
set_option linter.unusedSimpArgs false
def putL (x:Int):Nat→List Int
 | 0=>[]
 | n+1=>x / 256 ^ n % 256 :: putL x n
theorem putL_length (x:Int):∀ n,(putL x n).length=n
 | 0=>rfl
 | n+1=>by rw [putL,List.length_cons,putL_length x n]
theorem shr_i64 (x:Int) (n:Nat) (h:n≤7):shr .i64 x (wrap64 (8 * (n:Int)))=x / 256 ^ n:=by
 have e:wrap64 (8 * (n:Int))=((8 * n:Nat):Int):=by unfold wrap64;omega
 rw [e]
 unfold shr
 have hb:IntKind.i64.bits=64:=rfl
 rw [hb,Int.toNat_natCast,Nat.min_eq_left (by omega)]
 congr 1
 rcases (by omega:n=0∨n=1∨n=2∨n=3∨n=4∨n=5∨n=6∨n=7) with rfl|rfl|rfl|rfl|rfl|rfl|rfl|rfl <;> rfl
theorem put_l0 (x:Int):∀ (n:Nat) (acc:List Int),n≤7→acc.length≤100 - n→Ev (fun k=>oct_Put.l0 k x acc ((n:Int) - 1)) (strOfNums (acc ++ putL x n),0)
 | 0,acc,h,ha=>by
  refine Ev.succ ?_
  simp only [oct_Put.l0]
  refine Ev.neg (by omega) (Ev.some_ ?_)
  rw [putL,List.append_nil]
 | n+1,acc,h,ha=>by
  refine Ev.succ ?_
  simp only [oct_Put.l0]
  have e:(((n+1:Nat):Int) - 1)=n:=by omega
  have e2:wrap64 ((n:Int) - 1)=(n:Int) - 1:=by unfold wrap64;omega
  have e3:wrap64 (8 * (n:Int))=8 * n:=by unfold wrap64;omega
  rw [e,shr_i64 x n (by omega),e2]
  refine Ev.pos (by omega) (Ev.pos (by rw [e3];omega) (Ev.pos (by omega) ?_))
  have:=put_l0 x n (acc ++ [x / 256 ^ n % 256]) (by omega) (by rw [List.length_append,List.length_singleton];omega)
  rw [List.append_assoc] at this
  exact this
def putR (x:Int):ByteArray×Int:=if 0≤x∧x < 72057594037927936 then (strOfNums (putL x 7),0) else (⟨#[]⟩,8)
theorem put_ev (x:Int):Ev (fun k=>oct_Put.f k x 7) (putR x):=by
 unfold oct_Put.f
 refine Ev.neg (by omega) ?_
 rw [decide_eq_false (by omega)]
 refine Ev.succ ?_
 simp only [oct_Put.j0]
 refine Ev.neg (by simp) ?_
 have e3:wrap64 (8 * (7:Int))=56:=by unfold wrap64;omega
 have es:shr .i64 x (wrap64 (8 * 7))=x / 256 ^ 7:=shr_i64 x 7 (by omega)
 rw [es]
 have hp:(256:Int) ^ 7=72057594037927936:=by decide
 rw [hp]
 unfold putR
 by_cases h0:x < 0
 ·
  rw [if_neg (by omega)]
  exact Ev.pos h0 (Ev.some_ rfl)
 ·
  refine Ev.neg h0 (Ev.pos (by rw [e3];omega) ?_)
  by_cases h1:x < 72057594037927936
  ·
   rw [if_pos ⟨by omega,h1⟩]
   refine Ev.pos (by omega) ?_
   rw [show wrap64 (7 - 1)=((7:Nat):Int) - 1 by decide +kernel]
   exact put_l0 x 7 [] (by omega) (by simp)
  ·
   rw [if_neg (by omega)]
   exact Ev.neg (by omega) (Ev.some_ rfl)
theorem power_l0 (n:Nat) (hn:n≤7):∀ (d i:Nat),i+d=n→Ev (fun k=>mosaicref02_power.l0 k (n:Int) (256 ^ i) (i:Int)) (256 ^ n)
 | 0,i,h=>by
  refine Ev.succ ?_
  simp only [mosaicref02_power.l0]
  refine Ev.neg (by omega) (Ev.some_ ?_)
  rw [show i=n by omega]
 | d+1,i,h=>by
  refine Ev.succ ?_
  simp only [mosaicref02_power.l0]
  refine Ev.pos (by omega) ?_
  have e:wrap64 ((256:Int) ^ i * 256)=256 ^ (i+1):=by
   rcases (by omega:i=0∨i=1∨i=2∨i=3∨i=4∨i=5∨i=6) with rfl|rfl|rfl|rfl|rfl|rfl|rfl <;> decide +kernel
  rw [e,wrap_succ i (by omega)]
  exact power_l0 n hn d (i+1) (by omega)
theorem power_ev (n:Nat) (hn:n≤7):Ev (fun k=>mosaicref02_power.f k (n:Int)) (256 ^ n):=by
 unfold mosaicref02_power.f
 exact power_l0 n hn n 0 (by omega)
theorem pow_pos256 (n:Nat):(0:Int) < 256 ^ n:=Int.pow_pos (by omega)
theorem refput_l0 (x:Int) (h0:0≤x) (h1:x≤9223372036854775807):∀ (n:Nat) (acc:List Int),n≤7→acc.length≤100 - n→Ev (fun k=>mosaicref02_Put.l0 k x acc ((n:Int) - 1)) (strOfNums (acc ++ putL x n),0)
 | 0,acc,h,ha=>by
  refine Ev.succ ?_
  simp only [mosaicref02_Put.l0]
  refine Ev.neg (by omega) (Ev.some_ ?_)
  rw [putL,List.append_nil]
 | n+1,acc,h,ha=>by
  refine Ev.succ ?_
  simp only [mosaicref02_Put.l0]
  have e:(((n+1:Nat):Int) - 1)=n:=by omega
  have e2:wrap64 ((n:Int) - 1)=(n:Int) - 1:=by unfold wrap64;omega
  rw [e,e2]
  refine Ev.pos (by omega) (Ev.bind (power_ev n (by omega)) ?_)
  have hp:=pow_pos256 n
  have q:Int.tdiv x (256 ^ n)=x / 256 ^ n:=Int.tdiv_eq_ediv_of_nonneg h0
  have q0:0≤x / 256 ^ n:=Int.ediv_nonneg h0 (by omega)
  have q1:x / 256 ^ n≤x:=Int.ediv_le_self _ h0
  have q2:wrap64 (x / 256 ^ n)=x / 256 ^ n:=by unfold wrap64;omega
  have q3:Int.tmod (x / 256 ^ n) 256=x / 256 ^ n % 256:=Int.tmod_eq_emod_of_nonneg q0
  refine Ev.neg (by omega) (Ev.pos (by omega) ?_)
  rw [q,q2,q3,show x / 256 ^ n % 256 % 256=x / 256 ^ n % 256 by omega]
  have:=refput_l0 x h0 h1 n (acc ++ [x / 256 ^ n % 256]) (by omega) (by rw [List.length_append,List.length_singleton];omega)
  rw [List.append_assoc] at this
  exact this
theorem refput_ev (x:Int) (h1:x≤9223372036854775807):Ev (fun k=>mosaicref02_Put.f k x 7) (putR x):=by
 unfold mosaicref02_Put.f
 refine Ev.neg (by omega) ?_
 rw [decide_eq_false (by omega)]
 refine Ev.succ ?_
 simp only [mosaicref02_Put.j0]
 refine Ev.neg (by simp) ?_
 have hp:(256:Int) ^ 7=72057594037927936:=by decide
 unfold putR
 by_cases h0:x < 0
 ·
  rw [if_neg (by omega)]
  refine Ev.pos h0 (Ev.succ ?_)
  simp only [mosaicref02_Put.j1]
  exact Ev.pos (by simp) (Ev.some_ rfl)
 ·
  refine Ev.neg h0 (Ev.bind (power_ev 7 (by omega)) (Ev.succ ?_))
  simp only [mosaicref02_Put.j1]
  rw [hp]
  by_cases h2:x < 72057594037927936
  ·
   rw [if_pos ⟨by omega,h2⟩,decide_eq_false (by omega)]
   refine Ev.neg (by simp) ?_
   rw [show wrap64 (7 - 1)=((7:Nat):Int) - 1 by decide +kernel]
   exact refput_l0 x (by omega) h1 7 [] (by omega) (by simp)
  ·
   rw [if_neg (by omega),decide_eq_true (by omega)]
   exact Ev.pos (by simp) (Ev.some_ rfl)
/-! ### Blocks -/
def blockT (seed:ByteArray) (x:Int):ByteArray:=(((⟨#[2]⟩:ByteArray) ++ strOfNums [(seed.size:Int) % 256]) ++ seed) ++ strOfNums (putL x 7)
def blockB (seed:ByteArray) (x:Int):ByteArray:=if 0≤x∧x < 72057594037927936∧seed.size≤64 then shaSum (blockT seed x) else ⟨#[]⟩
theorem two_size:(⟨#[2]⟩:ByteArray).size=1:=rfl
theorem block_ev (seed:ByteArray) (x:Int) (hs:seed.size≤9223372036854775000):Ev (fun k=>prng_Block.f k seed x) (blockB seed x):=by
 unfold prng_Block.f
 refine Ev.bind (put_ev x) ?_
 unfold blockB putR
 by_cases h:0≤x∧x < 72057594037927936
 ·
  rw [if_pos h]
  refine Ev.pos rfl ?_
  by_cases h2:seed.size≤64
  ·
   rw [if_pos (show 0≤x∧x < 72057594037927936∧seed.size≤64 from ⟨h.1,h.2,h2⟩)]
   refine Ev.neg (by omega) (Ev.some_bind ?_)
   have s1:(strOfNums [(seed.size:Int) % 256]).size=1:=by rw [strOfNums_size];rfl
   have s2:(strOfNums (putL x 7)).size=7:=by rw [strOfNums_size,putL_length]
   refine Ev.pos (by omega) (Ev.pos (by simp only [ByteArray.size_append,two_size];omega) (Ev.pos (by simp only [ByteArray.size_append,two_size];omega) ?_))
   refine Ev.call (sha_f _ ?_) (Ev.some_ rfl)
   simp only [ByteArray.size_append,two_size]
   omega
  ·
   rw [if_neg (show ¬ (0≤x∧x < 72057594037927936∧seed.size≤64) by omega)]
   exact Ev.pos (by omega) (Ev.some_ rfl)
 ·
  rw [if_neg h,if_neg (show ¬ (0≤x∧x < 72057594037927936∧seed.size≤64) by omega)]
  exact Ev.neg (by simp) (Ev.some_ rfl)
theorem refnum_ev (n:Nat) (h:n≤64):Ev (fun k=>mosaicref02_Num.f k (n:Int) 1) (strOfNums [(n:Int) % 256]):=by
 unfold mosaicref02_Num.f
 refine Ev.bind (a:=(strOfNums [(n:Int) % 256],0)) ?_ (Ev.some_ rfl)
 unfold mosaicref02_Put.f
 refine Ev.neg (by omega) ?_
 rw [decide_eq_false (by omega)]
 refine Ev.succ ?_
 simp only [mosaicref02_Put.j0]
 refine Ev.neg (by simp) (Ev.neg (by omega) (Ev.bind (power_ev 1 (by omega)) (Ev.succ ?_)))
 simp only [mosaicref02_Put.j1]
 rw [decide_eq_false (by omega)]
 refine Ev.neg (by simp) ?_
 rw [show wrap64 (1 - 1)=((1:Nat):Int) - 1 by decide +kernel]
 have:=refput_l0 (n:Int) (by omega) (by omega) 1 [] (by omega) (by simp)
 simp only [putL,List.nil_append] at this
 rw [show (n:Int) / 256 ^ 0 % 256=(n:Int) % 256 by simp] at this
 exact this
theorem refblock_ev (seed:ByteArray) (x:Int) (hx:x≤9223372036854775807):Ev (fun k=>mosaicref04_Block.f k seed x) (blockB seed x):=by
 unfold mosaicref04_Block.f
 refine Ev.bind (refput_ev x hx) ?_
 unfold blockB
 by_cases h2:seed.size≤64
 ·
  refine Ev.neg (by omega) (Ev.succ ?_)
  simp only [mosaicref04_Block.j0]
  unfold putR
  by_cases h:0≤x∧x < 72057594037927936
  ·
   rw [if_pos h,if_pos (show 0≤x∧x < 72057594037927936∧seed.size≤64 from ⟨h.1,h.2,h2⟩)]
   refine Ev.neg (by simp) (Ev.bind (refnum_ev seed.size h2) ?_)
   have s1:(strOfNums [(seed.size:Int) % 256]).size=1:=by rw [strOfNums_size];rfl
   have s2:(strOfNums (putL x 7)).size=7:=by rw [strOfNums_size,putL_length]
   refine Ev.pos (by omega) (Ev.pos (by simp only [ByteArray.size_append,two_size];omega) (Ev.pos (by simp only [ByteArray.size_append,two_size];omega) ?_))
   refine Ev.bind (refsum_ev _ ?_) (Ev.some_ rfl)
   simp only [ByteArray.size_append,two_size]
   omega
  ·
   rw [if_neg h,if_neg (show ¬ (0≤x∧x < 72057594037927936∧seed.size≤64) by omega)]
   exact Ev.pos (by simp) (Ev.some_ rfl)
 ·
  rw [if_neg (show ¬ (0≤x∧x < 72057594037927936∧seed.size≤64) by omega)]
  refine Ev.pos (by omega) (Ev.succ ?_)
  simp only [mosaicref04_Block.j0]
  exact Ev.pos (by simp) (Ev.some_ rfl)
/-! ### Words -/
def getN (l:List Int) (acc:Int):Int:=l.foldl (fun a b=>a * 256+b) acc
theorem wraps_62 (n:Int) (h₀:0≤n) (h₁:n < 2 ^ 62):IntKind.i64.wrap n=n:=by rw [IntKind.wrap_i64];omega
theorem i64_or8 (x y:Int) (hx₀:0≤x) (hx:x % 256=0) (hx₁:x < 2 ^ 62) (hy₀:0≤y) (hy:y < 256):Go.bits .or .i64 x y=x+y :=
 bits_join .i64 62 (by decide) wraps_62 8 x y hx₀ (by omega) hx₁ hy₀ (by omega) (by omega)
theorem get_l0:∀ (n:Nat) (s:ByteArray) (acc:Int) (m:Nat),s.size=n→n+m≤7→0≤acc→acc < 256 ^ m→Ev (fun k=>oct_Get.l0 k s acc) (getN (bytesOf s) acc)
 | 0,s,acc,m,hs,hm,h0,h1=>by
  refine Ev.succ ?_
  simp only [oct_Get.l0]
  have hb:bytesOf s=[]:=List.eq_nil_of_length_eq_zero (by rw [bytesOf_length];exact hs)
  have hl:s.toList=[]:=by
   have:s.data.toList=[]:=List.eq_nil_of_length_eq_zero (by simpa using hs)
   rw [ByteArray.toList_eq]
   exact this
  refine Ev.pos hl (Ev.some_ ?_)
  rw [hb]
  rfl
 | n+1,s,acc,m,hs,hm,h0,h1=>by
  refine Ev.succ ?_
  simp only [oct_Get.l0]
  have hne:¬ s.toList=([]:List UInt8):=fun e=>by
   rw [ByteArray.toList_eq] at e
   have h2:s.data.toList.length=0:=by rw [e];rfl
   have h3:s.data.toList.length=s.size:=by simp
   omega
  have hr:=bt_range s 0
  have hm4:(256:Int) ^ m≤256 ^ 6:=by
   rcases (by omega:m=0∨m=1∨m=2∨m=3∨m=4∨m=5∨m=6) with rfl|rfl|rfl|rfl|rfl|rfl|rfl <;> decide
  have h6:(256:Int) ^ 6=281474976710656:=by decide
  have e1:wrap64 (acc * 256)=acc * 256:=by unfold wrap64;omega
  have e2:wrap64 (bt s 0)=bt s 0:=by unfold wrap64;omega
  rw [e1,e2,i64_or8 _ _ (by omega) (by omega) (by omega) hr.1 (by omega)]
  refine Ev.neg hne (Ev.pos (by omega) (Ev.pos (by omega) ?_))
  have hsz:(s.extract 1 s.size).size=n:=by rw [ByteArray.size_extract];omega
  have hb:bytesOf s=bt s 0 :: bytesOf (s.extract 1 s.size):=by
   rw [bytesOf_extract,List.take_of_length_le (by rw [List.length_drop,bytesOf_length];omega)]
   have hl:0 < (bytesOf s).length:=by rw [bytesOf_length];omega
   have:=List.drop_eq_getElem_cons hl
   rw [List.drop_zero] at this
   refine this.trans ?_
   congr 1
   have h2:=rd_bytesOf s 0
   rw [← h2]
   simp [rd,List.getD_eq_getElem?_getD,hl]
  have:=get_l0 n (s.extract 1 s.size) (acc * 256+bt s 0) (m+1) hsz (by omega) (by omega) (by rw [Int.pow_succ];omega)
  rw [hb]
  exact this
theorem get_ev (s:ByteArray) (h:s.size≤7):Ev (fun k=>oct_Get.f k s) (getN (bytesOf s) 0):=by
 unfold oct_Get.f
 refine Ev.neg (by omega) (get_l0 s.size s 0 0 rfl (by omega) (by omega) (by decide))
theorem refget_l0 (s:ByteArray) (hs:s.size≤7):∀ (d i:Nat) (acc:Int),i+d=s.size→0≤acc→acc < 256 ^ i→Ev (fun k=>mosaicref02_Get.l0 k s acc (i:Int)) (getN ((bytesOf s).drop i) acc)
 | 0,i,acc,hd,h0,h1=>by
  refine Ev.succ ?_
  simp only [mosaicref02_Get.l0]
  refine Ev.neg (by omega) (Ev.some_ ?_)
  rw [List.drop_eq_nil_of_le (by rw [bytesOf_length];omega)]
  rfl
 | d+1,i,acc,hd,h0,h1=>by
  refine Ev.succ ?_
  simp only [mosaicref02_Get.l0]
  have hr:=bt_range s i
  have hm4:(256:Int) ^ i≤256 ^ 6:=by
   rcases (by omega:i=0∨i=1∨i=2∨i=3∨i=4∨i=5∨i=6) with rfl|rfl|rfl|rfl|rfl|rfl|rfl <;> decide
  have h6:(256:Int) ^ 6=281474976710656:=by decide
  have e1:wrap64 (256 * acc)=256 * acc:=by unfold wrap64;omega
  have e2:wrap64 (bt s i)=bt s i:=by unfold wrap64;omega
  have e3:wrap64 (256 * acc+bt s i)=acc * 256+bt s i:=by unfold wrap64;omega
  rw [e1,e2,e3,wrap_succ i (by omega)]
  refine Ev.pos (by omega) (Ev.pos (by omega) ?_)
  have hl:i < (bytesOf s).length:=by rw [bytesOf_length];omega
  rw [List.drop_eq_getElem_cons hl]
  have he:(bytesOf s)[i]=bt s i:=by
   have h2:=rd_bytesOf s i
   rw [← h2]
   simp [rd,List.getD_eq_getElem?_getD,hl]
  rw [he]
  exact refget_l0 s hs d (i+1) (acc * 256+bt s i) (by omega) (by omega) (by rw [Int.pow_succ];omega)
theorem refget_ev (s:ByteArray) (h:s.size≤7):Ev (fun k=>mosaicref02_Get.f k s) (getN (bytesOf s) 0):=by
 unfold mosaicref02_Get.f
 refine Ev.neg (by omega) ?_
 have:=refget_l0 s h s.size 0 0 (by omega) (by omega) (by decide)
 rw [List.drop_zero] at this
 exact this
/-- The word that is number i of a seed. -/
def wordI (seed:ByteArray) (i:Int):Int:=getN (bytesOf ((blockB seed (i / 8)).extract (4 * (i % 8)).toNat (4 * (i % 8)+4).toNat)) 0
theorem getN_range:∀ (l:List Int) (acc:Int) (m:Nat),(∀ x∈l,0≤x∧x≤255)→0≤acc→acc < 256 ^ m→0≤getN l acc∧getN l acc < 256 ^ (m+l.length)
 | [],acc,m,h,h0,h1=>⟨h0,h1⟩
 | x :: l,acc,m,h,h0,h1=>by
  have hx:=h x (by simp)
  have:=getN_range l (acc * 256+x) (m+1) (fun y hy=>h y (by simp [hy])) (by omega) (by rw [Int.pow_succ];omega)
  rw [List.length_cons,show m+(l.length+1)=m+1+l.length by omega]
  exact this
theorem bytesOf_range (s:ByteArray):∀ x∈bytesOf s,0≤x∧x≤255:=by
 intro x hx
 unfold bytesOf at hx
 rw [List.mem_map] at hx
 obtain ⟨b,_,rfl⟩:=hx
 have:=b.toNat_lt
 omega
theorem blockB_size (seed:ByteArray) (x:Int) (h:0≤x∧x < 72057594037927936∧seed.size≤64):(blockB seed x).size=32:=by rw [blockB,if_pos h];exact shaSum_size _
theorem wordI_range (seed:ByteArray) (i:Int) (h:0≤i∧i≤2000000000∧seed.size≤64):0≤wordI seed i∧wordI seed i < 4294967296:=by
 have hs:=blockB_size seed (i / 8) ⟨by omega,by omega,h.2.2⟩
 have:=getN_range (bytesOf ((blockB seed (i / 8)).extract (4 * (i % 8)).toNat (4 * (i % 8)+4).toNat)) 0 0 (bytesOf_range _) (by omega) (by decide)
 rw [bytesOf_length,ByteArray.size_extract,hs,show 0+(min (4 * (i % 8)+4).toNat 32 - (4 * (i % 8)).toNat)=4 by omega] at this
 exact this
/-- What stands in a generator behind used words. -/
def GenI (seed:ByteArray) (used:Int) (b:ByteArray):Prop:=seed.size≤64∧0≤used∧(used % 8≠0→b=blockB seed (used / 8))
theorem GenI.start (seed:ByteArray) (h:seed.size≤64) (b:ByteArray):GenI seed 0 b:=⟨h,by omega,fun h=>absurd rfl h⟩
theorem GenI.next {seed:ByteArray} {used:Int} {b:ByteArray} (h:GenI seed used b):GenI seed (used+1) (blockB seed (used / 8)) :=
 ⟨h.1,by have:=h.2.1;omega,fun h8=>by rw [show (used+1) / 8=used / 8 by omega]⟩
theorem word_ev (seed:ByteArray) (used:Int) (b:ByteArray) (h:GenI seed used b) (hu:used≤1000000000):Ev (fun k=>prng_Gen_Word.f k seed used b) (wordI seed used,seed,used+1,blockB seed (used / 8)):=by
 obtain ⟨hs,h0,hb⟩:=h
 unfold prng_Gen_Word.f
 have m:Int.tmod used 8=used % 8:=Int.tmod_eq_emod_of_nonneg h0
 have q:Int.tdiv used 8=used / 8:=Int.tdiv_eq_ediv_of_nonneg h0
 refine Ev.pos ⟨h0,hu⟩ (Ev.bind (a:=blockB seed (used / 8)) ?_ (Ev.bind (a:=wordI seed used) ?_ (Ev.some_ rfl)))
 ·
  unfold wordBlock
  rw [m,q]
  by_cases h8:used % 8=0
  ·
   exact Ev.pos h8 (block_ev seed _ (by omega))
  ·
   exact Ev.neg h8 (Ev.some_ (hb h8))
 ·
  unfold wordPart
  have hsz:=blockB_size seed (used / 8) ⟨by omega,by omega,hs⟩
  rw [m]
  refine Ev.pos (by omega) (Ev.bind (get_ev _ (by rw [ByteArray.size_extract];omega)) (Ev.some_ ?_))
  have:=wordI_range seed used ⟨h0,by omega,hs⟩
  show wordI seed used % 4294967296=_
  omega
theorem refword_ev (seed:ByteArray) (u i:Int) (hs:seed.size≤64) (h0:0≤i) (h1:i≤2000000000):Ev (fun k=>mosaicref04_Gen_word.f k seed u i) (wordI seed i):=by
 unfold mosaicref04_Gen_word.f
 have m:Int.tmod i 8=i % 8:=Int.tmod_eq_emod_of_nonneg h0
 have q:Int.tdiv i 8=i / 8:=Int.tdiv_eq_ediv_of_nonneg h0
 have hsz:=blockB_size seed (i / 8) ⟨by omega,by omega,hs⟩
 have e1:wrap64 (4 * (i % 8))=4 * (i % 8):=by unfold wrap64;omega
 have e2:wrap64 (4 * (i % 8)+4)=4 * (i % 8)+4:=by unfold wrap64;omega
 have e3:wrap64 (i / 8)=i / 8:=by unfold wrap64;omega
 rw [m,q,e1,e2,e3]
 refine Ev.bind (refblock_ev seed _ (by omega)) (Ev.pos (by omega) (Ev.pos (by omega) (Ev.pos (by omega) ?_)))
 exact Ev.bind (refget_ev _ (by rw [ByteArray.size_extract];omega)) (Ev.some_ rfl)
theorem refWord_ev (seed:ByteArray) (u:Int) (hs:seed.size≤64) (h0:0≤u) (h1:u≤2000000000):Ev (fun k=>mosaicref04_Gen_Word.f k seed u) (seed,u+1,wordI seed u):=by
 unfold mosaicref04_Gen_Word.f
 refine Ev.bind (refword_ev seed u u hs h0 h1) (Ev.some_ ?_)
 rw [show wrap64 (u+1)=u+1 by unfold wrap64;omega]
end Go.Proofs.Ytelcaepenfjloaa.Pure
/-! #### PurePrng2 -/
/- prng in plain words: what is chosen, drawn below a number, picked. -/
namespace Go.Proofs.Ytelcaepenfjloaa.Pure
open Go.RowKit Go.Proofs.Ytelcaepenfjloaa.Print Go.Proofs.YtelcaepenfjloaaW.PrintWords Go.Proofs.YtelcaepenfjloaaW.PrintLast Go.Proofs.YtelcaepenfjloaaW.PrintMore
set_option linter.unusedVariables false
set_option linter.unusedSimpArgs false
def bndN (n:Int):Int:=4294967296 - 4294967296 % n
theorem bndN_pos (n:Int) (h:1≤n) (h2:n≤2147483647):0 < bndN n∧bndN n≤4294967296:=by
 have a:=Int.emod_nonneg 4294967296 (show n≠0 by omega)
 have b:=Int.emod_lt_of_pos 4294967296 (show 0 < n by omega)
 unfold bndN
 omega
theorem bound_f (n:Int) (h:1≤n) (h2:n≤2147483647):prng_bound.f n=some (bndN n):=by
 have:=bndN_pos n h h2
 unfold prng_bound.f
 rw [if_neg (by omega)]
 show some (wrap64 (bndN n))=_
 rw [wrap_of (by omega) (by omega)]
theorem may_f (n:Int):prng_may.f n=some (decide (1≤n∧n≤2147483647)):=by
 unfold prng_may.f
 by_cases h:1≤n
 ·
  rw [if_pos h]
  simp [h]
 ·
  rw [if_neg (by omega)]
  simp [h]
def chG (n m:Int):List Int→Int→Int→Int×Int
 | [],last,used=>(Int.tmod last n,used)
 | w :: t,_,used=>if w < m then (Int.tmod w n,used+1) else chG n m t w (used+1)
theorem chG_range (n m:Int) (hn:1≤n):∀ (l:List Int) (last used:Int),(∀ x∈l,0≤x)→0≤last→0≤(chG n m l last used).1∧(chG n m l last used).1 < n∧used≤(chG n m l last used).2∧(chG n m l last used).2≤used+l.length
 | [],last,used,h,h0=>⟨Int.tmod_nonneg n h0,Int.tmod_lt_of_pos last (by omega),by simp [chG],by simp [chG]⟩
 | w :: t,last,used,h,h0=>by
  have hw:=h w (by simp)
  unfold chG
  split
  ·
   exact ⟨Int.tmod_nonneg n hw,Int.tmod_lt_of_pos w (by omega),by simp;omega,by simp;omega⟩
  ·
   have:=chG_range n m hn t w (used+1) (fun x hx=>h x (by simp [hx])) hw
   rw [List.length_cons]
   refine ⟨this.1,this.2.1,by omega,by omega⟩
def chooseP (l:List Int) (n:Int):Int×Int:=if 1≤n∧n≤2147483647∧l≠[] then chG n (bndN n) (l.take 8) 0 0 else (0,0)
def U32 (l:List Int):Prop:=∀ x∈l,0≤x∧x < 4294967296
theorem choose_l0 (n:Int) (hn:1≤n) (hn2:n≤2147483647) (y:List Int) (hy:U32 y) (h8:y.length≤8) (h1:0 < y.length):∀ (d i:Nat) (last:Int),i+d=y.length→(0 < i→last=y.getD (i - 1) 0) →
  Ev (fun k=>prng_Choose.l0 k y n y (y.length:Int) (i:Int)) (chG n (bndN n) (y.drop i) last i)
 | 0,i,last,h,hlast=>by
  have hi:i=y.length:=by omega
  have hl:=hlast (by omega)
  refine Ev.succ ?_
  simp only [prng_Choose.l0]
  rw [show wrap64 ((y.length:Int) - 1)=((y.length - 1:Nat):Int) by unfold wrap64;omega]
  refine Ev.neg (by omega) (Ev.pos (by omega) (Ev.pos (by omega) (Ev.neg (by omega) (Ev.some_ ?_))))
  rw [List.drop_eq_nil_of_le (by omega),chG,rd_nat,hl,hi]
  have hv:=hy (y.getD (y.length - 1) 0) (by rw [List.getD_eq_getElem?_getD,List.getElem?_eq_getElem (by omega)];exact List.getElem_mem _)
  rw [wrap_of (by omega) (by omega)]
 | d+1,i,last,h,hlast=>by
  have hi:i < y.length:=by omega
  refine Ev.succ ?_
  simp only [prng_Choose.l0]
  have hv:=hy y[i] (List.getElem_mem _)
  rw [bound_f n hn hn2,rd_lt y i hi,wrap_of (x:=y[i]) (by omega) (by omega),wrap_succ i (by omega),List.drop_eq_getElem_cons hi]
  refine Ev.pos (by omega) (Ev.pos (by omega) (Ev.pos (by omega) (Ev.some_bind ?_)))
  unfold chG
  by_cases c:y[i] < bndN n
  ·
   rw [if_pos c]
   exact Ev.pos c (Ev.neg (by omega) (Ev.some_ rfl))
  ·
   rw [if_neg c]
   refine Ev.neg c ?_
   exact choose_l0 n hn hn2 y hy h8 h1 d (i+1) y[i] (by omega) (fun _=>by simp [List.getD_eq_getElem?_getD,hi])
theorem U32.take {l:List Int} (h:U32 l) (k:Nat):U32 (l.take k):=fun x hx=>h x (List.mem_of_mem_take hx)
theorem choose_ev (l:List Int) (n:Int) (hl:U32 l) (hlen:l.length≤9223372036854775807):Ev (fun k=>prng_Choose.f k l n) (chooseP l n):=by
 unfold prng_Choose.f
 refine Ev.call (may_f n) ?_
 unfold chooseP
 by_cases hm:1≤n∧n≤2147483647
 ·
  rw [decide_eq_true hm]
  refine Ev.pos rfl (Ev.succ ?_)
  simp only [prng_Choose.j0]
  by_cases h0:l=[]
  ·
   subst h0
   exact Ev.pos (by simp) (Ev.some_ (by simp))
  ·
   have hpos:0 < l.length:=List.length_pos_iff.2 h0
   have hmn:mn (l.length:Int) 8=(((l.take 8).length:Nat):Int):=by
    unfold mn
    rw [List.length_take]
    split <;> omega
   rw [if_pos ⟨hm.1,hm.2,h0⟩,hmn,Int.toNat_natCast]
   have ht:l.take (l.take 8).length=l.take 8:=by
    rw [List.length_take]
    rcases Nat.lt_or_ge l.length 8 with h|h
    ·
     rw [Nat.min_eq_right (by omega),List.take_of_length_le (by omega),List.take_of_length_le (by omega)]
    ·
     rw [Nat.min_eq_left h]
   rw [ht]
   have h8:(l.take 8).length≤8:=by rw [List.length_take];omega
   have h1:0 < (l.take 8).length:=by rw [List.length_take];omega
   have hle:(l.take 8).length≤l.length:=by rw [List.length_take];omega
   refine Ev.neg (by simp;omega) (Ev.pos (by omega) (Ev.pos (by omega) ?_))
   have:=choose_l0 n hm.1 hm.2 (l.take 8) (hl.take 8) h8 h1 (l.take 8).length 0 0 (by omega) (fun h=>absurd h (by omega))
   rw [List.drop_zero] at this
   exact this
 ·
  rw [decide_eq_false hm,if_neg (fun h=>hm ⟨h.1,h.2.1⟩)]
  refine Ev.neg (by simp) (Ev.succ ?_)
  simp only [prng_Choose.j0]
  exact Ev.pos (by simp) (Ev.some_ rfl)
theorem refchoose_l0 (n:Int) (hn:1≤n) (hn2:n≤2147483647) (l:List Int) (hl:U32 l) (hlen:l.length≤9223372036854775807):∀ (d i:Nat) (last:Int),i+d=(l.take 8).length →
  Ev (fun k=>mosaicref04_Choose.l0 k l n (bndN n) last (i:Int) (i:Int)) (chG n (bndN n) ((l.take 8).drop i) last i)
 | 0,i,last,h=>by
  have hi:i=(l.take 8).length:=by omega
  rw [List.length_take] at hi
  rw [List.drop_eq_nil_of_le (by rw [List.length_take];omega),chG]
  refine Ev.succ ?_
  simp only [mosaicref04_Choose.l0]
  have fin:Ev (fun k=>mosaicref04_Choose.j2 k l n (bndN n) last (i:Int) (i:Int) false) (Int.tmod last n,(i:Int)):=by
   refine Ev.succ ?_
   simp only [mosaicref04_Choose.j2]
   exact Ev.neg (by simp) (Ev.neg (by omega) (Ev.some_ rfl))
  by_cases c:(i:Int) < (l.length:Int)
  ·
   refine Ev.pos c ?_
   rw [decide_eq_false (by omega)]
   exact fin
  ·
   exact Ev.neg c fin
 | d+1,i,last,h=>by
  have hi:i < (l.take 8).length:=by omega
  have hi2:=hi
  rw [List.length_take] at hi2
  have hil:i < l.length:=by omega
  refine Ev.succ ?_
  simp only [mosaicref04_Choose.l0]
  refine Ev.pos (by omega) ?_
  rw [decide_eq_true (by omega)]
  refine Ev.succ ?_
  simp only [mosaicref04_Choose.j2]
  have hv:=hl l[i] (List.getElem_mem _)
  rw [rd_lt l i hil,wrap_of (x:=l[i]) (by omega) (by omega),wrap_succ i (by omega),List.drop_eq_getElem_cons hi,List.getElem_take]
  refine Ev.pos (by simp) (Ev.pos (by omega) (Ev.pos (by omega) ?_))
  unfold chG
  by_cases c:l[i] < bndN n
  ·
   rw [if_pos c]
   exact Ev.pos c (Ev.neg (by omega) (Ev.some_ rfl))
  ·
   rw [if_neg c]
   exact Ev.neg c (refchoose_l0 n hn hn2 l hl hlen d (i+1) l[i] (by omega))
theorem refchoose_ev (l:List Int) (n:Int) (hl:U32 l) (hlen:l.length≤9223372036854775807):Ev (fun k=>mosaicref04_Choose.f k l n) (chooseP l n):=by
 unfold mosaicref04_Choose.f
 have bad:Ev (fun k=>mosaicref04_Choose.j0 k l n true) (0,0):=by
  refine Ev.succ ?_
  simp only [mosaicref04_Choose.j0]
  exact Ev.pos (by simp) (Ev.some_ rfl)
 unfold chooseP
 by_cases h1:n < 1
 ·
  rw [if_neg (fun h=>by omega)]
  exact Ev.pos h1 bad
 refine Ev.neg h1 ?_
 by_cases h2:n > 2147483647
 ·
  rw [if_neg (fun h=>by omega)]
  exact Ev.pos h2 bad
 refine Ev.neg h2 ?_
 by_cases h0:l=[]
 ·
  subst h0
  rw [if_neg (fun h=>h.2.2 rfl)]
  exact bad
 have hpos:0 < l.length:=List.length_pos_iff.2 h0
 rw [if_pos ⟨by omega,by omega,h0⟩,show ((l.length:Int) == 0)=false by simp;omega]
 refine Ev.succ ?_
 simp only [mosaicref04_Choose.j0]
 have hb:=bndN_pos n (by omega) (by omega)
 rw [show wrap64 (4294967296 - 4294967296 % n)=bndN n from wrap_of (show _≤bndN n by omega) (show bndN n≤_ by omega)]
 refine Ev.neg (by simp) (Ev.neg (by omega) ?_)
 have:=refchoose_l0 n (by omega) (by omega) l hl hlen (l.take 8).length 0 0 (by omega)
 rw [List.drop_zero] at this
 exact this
/-! ### Below -/
def wsL (seed:ByteArray):Int→Nat→List Int
 | _,0=>[]
 | u,c+1=>wordI seed u :: wsL seed (u+1) c
theorem wsL_length (seed:ByteArray):∀ (c:Nat) (u:Int),(wsL seed u c).length=c
 | 0,_=>rfl
 | c+1,u=>by rw [wsL,List.length_cons,wsL_length seed c]
theorem wsL_U32 (seed:ByteArray) (hs:seed.size≤64):∀ (c:Nat) (u:Int),0≤u→u+c≤2000000000→U32 (wsL seed u c)
 | 0,_,_,_=>fun x hx=>absurd hx (by simp [wsL])
 | c+1,u,h0,h1=>by
  intro x hx
  rw [wsL,List.mem_cons] at hx
  rcases hx with rfl|hx
  ·
   exact wordI_range seed u ⟨h0,by omega,hs⟩
  ·
   exact wsL_U32 seed hs c (u+1) (by omega) (by omega) x hx
def belowP (seed:ByteArray) (u n:Int):Int×Int:=if 1≤n∧n≤2147483647 then chG n (bndN n) (wsL seed u 8) 0 0 else (0,0)
theorem belowP_range (seed:ByteArray) (u n:Int) (hs:seed.size≤64) (h0:0≤u) (h1:u≤1000000000):0≤(belowP seed u n).1∧(1≤n→n≤2147483647→(belowP seed u n).1 < n)∧0≤(belowP seed u n).2∧(belowP seed u n).2≤8:=by
 unfold belowP
 split
 ·
  rename_i h
  have hU:=wsL_U32 seed hs 8 u h0 (by omega)
  have:=chG_range n (bndN n) h.1 (wsL seed u 8) 0 0 (fun x hx=>(hU x hx).1) (by omega)
  rw [wsL_length] at this
  exact ⟨this.1,fun _ _=>this.2.1,this.2.2.1,by omega⟩
 ·
  rename_i h
  exact ⟨by simp,fun h1 h2=>absurd ⟨h1,h2⟩ h,by simp,by simp⟩
theorem below_l0 (seed:ByteArray) (u0 n:Int) (hn:1≤n) (hn2:n≤2147483647) (hu:u0+8≤1000000000):∀ (c i:Nat) (last:Int) (b:ByteArray),i+c=8→GenI seed (u0+i) b →
  ∃ b',GenI seed (u0+(chG n (bndN n) (wsL seed (u0+i) c) last i).2) b'∧Ev (fun k=>prng_Gen_Below.l0 k n last (i:Int) seed (u0+i) b) ((chG n (bndN n) (wsL seed (u0+i) c) last i).1,seed,u0+(chG n (bndN n) (wsL seed (u0+i) c) last i).2,b')
 | 0,i,last,b,h,hg=>by
  refine ⟨b,hg,Ev.succ ?_⟩
  simp only [prng_Gen_Below.l0]
  exact Ev.neg (by omega) (Ev.neg (by omega) (Ev.some_ rfl))
 | c+1,i,last,b,h,hg=>by
  have hr:=wordI_range seed (u0+i) ⟨hg.2.1,by omega,hg.1⟩
  have hnx:=hg.next
  rw [show u0+(i:Int)+1=u0+((i+1:Nat):Int) by omega] at hnx
  have hw:=word_ev seed (u0+i) b hg (by omega)
  rw [show u0+(i:Int)+1=u0+((i+1:Nat):Int) by omega] at hw
  have hb:=bound_f n hn hn2
  rw [wsL,show u0+(i:Int)+1=u0+((i+1:Nat):Int) by omega]
  unfold chG
  by_cases cc:wordI seed (u0+i) < bndN n
  ·
   rw [if_pos cc]
   refine ⟨_,hnx,Ev.succ ?_⟩
   simp only [prng_Gen_Below.l0]
   refine Ev.pos (by omega) (Ev.bind hw (Ev.call hb ?_))
   simp only []
   rw [wrap_of (x:=wordI seed (u0+i)) (by omega) (by omega)]
   exact Ev.pos cc (Ev.neg (by omega) (Ev.some_ rfl))
  ·
   rw [if_neg cc]
   obtain ⟨b',g',e'⟩:=below_l0 seed u0 n hn hn2 hu c (i+1) (wordI seed (u0+i)) _ (by omega) hnx
   refine ⟨b',g',Ev.succ ?_⟩
   simp only [prng_Gen_Below.l0]
   refine Ev.pos (by omega) (Ev.bind hw (Ev.call hb ?_))
   simp only []
   rw [wrap_of (x:=wordI seed (u0+i)) (by omega) (by omega),wrap_succ i (by omega)]
   exact Ev.neg cc e'
theorem below_ev (seed:ByteArray) (u n:Int) (b:ByteArray) (hg:GenI seed u b) (hu:u+8≤1000000000) :
  ∃ b',GenI seed (u+(belowP seed u n).2) b'∧Ev (fun k=>prng_Gen_Below.f k seed u b n) ((belowP seed u n).1,seed,u+(belowP seed u n).2,b'):=by
 unfold prng_Gen_Below.f belowP
 by_cases hm:1≤n∧n≤2147483647
 ·
  rw [if_pos hm]
  have:=below_l0 seed u n hm.1 hm.2 hu 8 0 0 b rfl (by simpa using hg)
  simp only [show u+((0:Nat):Int)=u by omega] at this
  obtain ⟨b',g',e'⟩:=this
  refine ⟨b',g',Ev.call (may_f n) ?_⟩
  rw [decide_eq_true hm]
  exact Ev.pos rfl e'
 ·
  rw [if_neg hm]
  refine ⟨b,by simpa using hg,Ev.call (may_f n) ?_⟩
  rw [decide_eq_false hm]
  exact Ev.neg (by simp) (Ev.some_ (by simp))
theorem refbelow_l0 (seed:ByteArray) (u n:Int) (hs:seed.size≤64) (h0:0≤u) (hn:1≤n) (hn2:n≤2147483647) (hu:u+8≤1000000000):∀ (c i:Nat) (acc:List Int),i+c=8→acc.length=i→acc ++ wsL seed (u+i) c=wsL seed u 8 →
  Ev (fun k=>mosaicref04_Gen_Below.l0 k n acc (i:Int) seed u) (seed,u+(chG n (bndN n) (wsL seed u 8) 0 0).2,(chG n (bndN n) (wsL seed u 8) 0 0).1)
 | 0,i,acc,h,hl,ha=>by
  rw [wsL,List.append_nil] at ha
  subst ha
  refine Ev.succ ?_
  simp only [mosaicref04_Gen_Below.l0]
  have hU:=wsL_U32 seed hs 8 u h0 (by omega)
  have hc:=refchoose_ev (wsL seed u 8) n hU (by rw [wsL_length];omega)
  have hcp:chooseP (wsL seed u 8) n=chG n (bndN n) (wsL seed u 8) 0 0:=by
   rw [chooseP,if_pos ⟨hn,hn2,by intro e;have:=congrArg List.length e;rw [wsL_length] at this;simp at this⟩,List.take_of_length_le (by rw [wsL_length];omega)]
  rw [hcp] at hc
  have hr:=chG_range n (bndN n) hn (wsL seed u 8) 0 0 (fun x hx=>(hU x hx).1) (by omega)
  rw [wsL_length] at hr
  refine Ev.neg (by omega) (Ev.bind hc (Ev.some_ ?_))
  rw [wrap_of (by omega) (by omega)]
 | c+1,i,acc,h,hl,ha=>by
  refine Ev.succ ?_
  simp only [mosaicref04_Gen_Below.l0]
  have hr:=wordI_range seed (u+i) ⟨by omega,by omega,hs⟩
  refine Ev.pos (by omega) ?_
  rw [wrap_of (x:=u+(i:Int)) (by omega) (by omega)]
  refine Ev.bind (refword_ev seed u (u+i) hs (by omega) (by omega)) (Ev.pos (by omega) ?_)
  rw [wrap_succ i (by omega),show wordI seed (u+i) % 4294967296=wordI seed (u+i) by omega]
  refine refbelow_l0 seed u n hs h0 hn hn2 hu c (i+1) (acc ++ [wordI seed (u+i)]) (by omega) (by rw [List.length_append,List.length_singleton,hl]) ?_
  rw [wsL,show u+(i:Int)+1=u+((i+1:Nat):Int) by omega] at ha
  rw [← ha,List.append_assoc]
  rfl
theorem refbelow_ev (seed:ByteArray) (u n:Int) (hs:seed.size≤64) (h0:0≤u) (hu:u+8≤1000000000):Ev (fun k=>mosaicref04_Gen_Below.f k seed u n) (seed,u+(belowP seed u n).2,(belowP seed u n).1):=by
 unfold mosaicref04_Gen_Below.f belowP
 have bad:Ev (fun k=>mosaicref04_Gen_Below.j0 k n true seed u) (seed,u+0,0):=by
  refine Ev.succ ?_
  simp only [mosaicref04_Gen_Below.j0]
  exact Ev.pos (by simp) (Ev.some_ (by simp))
 by_cases h1:n < 1
 ·
  rw [if_neg (fun h=>by omega)]
  exact Ev.pos h1 bad
 refine Ev.neg h1 ?_
 by_cases h2:n > 2147483647
 ·
  rw [if_neg (fun h=>by omega),decide_eq_true h2]
  exact bad
 rw [if_pos ⟨by omega,by omega⟩,decide_eq_false h2]
 refine Ev.succ ?_
 simp only [mosaicref04_Gen_Below.j0]
 exact Ev.neg (by simp) (refbelow_l0 seed u n hs h0 (by omega) (by omega) hu 8 0 [] rfl rfl (by simp))
end Go.Proofs.Ytelcaepenfjloaa.Pure
/-! #### PurePrng3 -/
/- prng in plain words: picks; the page's examples. -/
namespace Go.Proofs.Ytelcaepenfjloaa.Pure
open Go.RowKit Go.Proofs.Ytelcaepenfjloaa.Print Go.Proofs.YtelcaepenfjloaaW.PrintWords Go.Proofs.YtelcaepenfjloaaW.PrintLast Go.Proofs.YtelcaepenfjloaaW.PrintMore
set_option linter.unusedVariables false
set_option linter.unusedSimpArgs false
def swapL (L:List Int) (i j:Nat):List Int:=(L.set i (L.getD j 0)).set j (L.getD i 0)
theorem swapL_length (L:List Int) (i j:Nat):(swapL L i j).length=L.length:=by simp [swapL]
theorem swapL_take (L:List Int) (i j:Nat) (h:i≤j):(swapL L i j).take i=L.take i:=by
 unfold swapL
 apply List.ext_getElem?
 intro q
 rw [List.getElem?_take,List.getElem?_take]
 split
 ·
  rw [List.getElem?_set_ne (by omega),List.getElem?_set_ne (by omega)]
 ·
  rfl
def pickG (seed:ByteArray) (n:Nat):Nat→Nat→List Int→Int→List Int×Int
 | 0,_,L,u=>(L,u)
 | c+1,i,L,u=>pickG seed n c (i+1) (swapL L i ((i:Int)+(belowP seed u ((n:Int) - i)).1).toNat) (u+(belowP seed u ((n:Int) - i)).2)
def rangeI (n:Nat):List Int:=(List.range n).map (fun i:Nat=>(i:Int))
theorem rangeI_length (n:Nat):(rangeI n).length=n:=by simp [rangeI]
theorem rangeI_succ (n:Nat):rangeI (n+1)=rangeI n ++ [(n:Int)]:=by simp [rangeI,List.range_succ]
def pickP (seed:ByteArray) (u n k:Int):List Int×Int :=
 if 0≤n∧n≤4096∧0≤k∧k≤n then ((pickG seed n.toNat k.toNat 0 (rangeI n.toNat) u).1.take k.toNat,(pickG seed n.toNat k.toNat 0 (rangeI n.toNat) u).2) else ([],u)
theorem pickG_range (seed:ByteArray) (n:Nat) (hs:seed.size≤64):∀ (c i:Nat) (L:List Int) (u:Int),0≤u→u+8 * c≤1000000000→(pickG seed n c i L u).1.length=L.length∧u≤(pickG seed n c i L u).2∧(pickG seed n c i L u).2≤u+8 * c
 | 0,i,L,u,h0,h1=>⟨rfl,by simp [pickG],by simp [pickG]⟩
 | c+1,i,L,u,h0,h1=>by
  have hb:=belowP_range seed u ((n:Int) - i) hs h0 (by omega)
  have:=pickG_range seed n hs c (i+1) (swapL L i ((i:Int)+(belowP seed u ((n:Int) - i)).1).toNat) (u+(belowP seed u ((n:Int) - i)).2) (by omega) (by omega)
  rw [swapL_length] at this
  rw [pickG]
  refine ⟨this.1,by omega,by omega⟩
theorem pick_l1 (seed:ByteArray) (n kk:Nat) (hn:n≤4096) (hk:kk≤n):∀ (c i:Nat) (L:List Int) (u:Int) (b:ByteArray),i+c=kk→L.length=n→GenI seed u b→u+8 * c+8≤1000000000 →
  ∃ b',GenI seed (pickG seed n c i L u).2 b'∧Ev (fun k=>prng_Gen_Pick.l1 k (n:Int) (kk:Int) L (kk:Int) (i:Int) seed u b) ((pickG seed n c i L u).1.take kk,seed,(pickG seed n c i L u).2,b')
 | 0,i,L,u,b,h,hL,hg,hu=>by
  refine ⟨b,hg,Ev.succ ?_⟩
  simp only [prng_Gen_Pick.l1]
  refine Ev.neg (by omega) (Ev.pos (by omega) (Ev.pos (by omega) (Ev.some_ ?_)))
  rw [Int.toNat_natCast]
  rfl
 | c+1,i,L,u,b,h,hL,hg,hu=>by
  obtain ⟨b1,g1,e1⟩:=below_ev seed u ((n:Int) - i) b hg (by omega)
  have hb:=belowP_range seed u ((n:Int) - i) hg.1 hg.2.1 (by omega)
  have hb1:=hb.2.1 (by omega) (by omega)
  rw [pickG]
  generalize hd:belowP seed u ((n:Int) - i)=d at g1 e1 hb hb1 ⊢
  obtain ⟨b',g',e'⟩:=pick_l1 seed n kk hn hk c (i+1) (swapL L i ((i:Int)+d.1).toNat) (u+d.2) b1 (by omega) (by rw [swapL_length];exact hL) g1 (by omega)
  refine ⟨b',g',Ev.succ ?_⟩
  simp only [prng_Gen_Pick.l1]
  rw [wrap_of (x:=(n:Int) - i) (by omega) (by omega)]
  refine Ev.pos (by omega) (Ev.bind e1 ?_)
  simp only []
  rw [wrap_of (x:=(i:Int)+d.1) (by omega) (by omega),wrap_succ i (by omega)]
  refine Ev.pos (by omega) (Ev.pos (by omega) (Ev.pos (by omega) (Ev.pos (by omega) ?_)))
  rw [Int.toNat_natCast,rd_nat,show rd L ((i:Int)+d.1)=L.getD ((i:Int)+d.1).toNat 0 from rfl]
  exact e'
theorem pick_l0 (seed:ByteArray) (n kk:Nat) (hn:n≤4096) (u:Int) (b:ByteArray) (r:List Int×ByteArray×Int×ByteArray) (hr:Ev (fun k=>prng_Gen_Pick.l1 k (n:Int) (kk:Int) (rangeI n) (kk:Int) 0 seed u b) r) :
  ∀ (d i:Nat),i+d=n→Ev (fun k=>prng_Gen_Pick.l0 k (n:Int) (kk:Int) (rangeI i ++ List.replicate d 0) (n:Int) (i:Int) seed u b) r
 | 0,i,h=>by
  refine Ev.succ ?_
  simp only [prng_Gen_Pick.l0]
  rw [show List.replicate 0 (0:Int)=[] from rfl,List.append_nil,show i=n by omega]
  exact Ev.neg (by omega) hr
 | d+1,i,h=>by
  refine Ev.succ ?_
  simp only [prng_Gen_Pick.l0]
  have hl:(rangeI i ++ List.replicate (d+1) (0:Int)).length=n:=by rw [List.length_append,rangeI_length,List.length_replicate];omega
  have hset:=set_pad (rangeI i) d (i:Int)
  rw [rangeI_length,← rangeI_succ] at hset
  rw [hl,Int.toNat_natCast,hset,wrap_succ i (by omega)]
  exact Ev.pos (by omega) (Ev.pos (by omega) (Ev.pos (by omega) (pick_l0 seed n kk hn u b r hr d (i+1) (by omega))))
theorem pick_ev (seed:ByteArray) (u n k:Int) (b:ByteArray) (hg:GenI seed u b) (hu:u≤900000000) :
  ∃ b',GenI seed (pickP seed u n k).2 b'∧Ev (fun K=>prng_Gen_Pick.f K seed u b n k) ((pickP seed u n k).1,seed,(pickP seed u n k).2,b'):=by
 unfold prng_Gen_Pick.f pickP
 have bad:Ev (fun K=>prng_Gen_Pick.j0 K n k true seed u b) ([],seed,u,b):=by
  refine Ev.succ ?_
  simp only [prng_Gen_Pick.j0]
  exact Ev.pos (by simp) (Ev.some_ rfl)
 by_cases h:0≤n∧n≤4096∧0≤k∧k≤n
 ·
  rw [if_pos h]
  obtain ⟨n,rfl⟩:=Int.eq_ofNat_of_zero_le h.1
  obtain ⟨k,rfl⟩:=Int.eq_ofNat_of_zero_le h.2.2.1
  rw [Int.toNat_natCast,Int.toNat_natCast]
  obtain ⟨b',g',e'⟩:=pick_l1 seed n k (by omega) (by omega) k 0 (rangeI n) u b (by omega) (rangeI_length n) hg (by omega)
  refine ⟨b',g',?_⟩
  refine Ev.neg (by omega) (Ev.neg (by omega) (Ev.neg (by omega) ?_))
  rw [decide_eq_false (by omega)]
  refine Ev.succ ?_
  simp only [prng_Gen_Pick.j0]
  rw [Int.toNat_natCast]
  refine Ev.neg (by simp) (Ev.pos (by omega) (Ev.pos (by omega) ?_))
  exact pick_l0 seed n k (by omega) u b _ e' n 0 (by omega)
 ·
  rw [if_neg h]
  refine ⟨b,hg,?_⟩
  by_cases h1:n < 0
  ·
   exact Ev.pos h1 bad
  refine Ev.neg h1 ?_
  by_cases h2:n > 4096
  ·
   exact Ev.pos h2 bad
  refine Ev.neg h2 ?_
  by_cases h3:k < 0
  ·
   exact Ev.pos h3 bad
  refine Ev.neg h3 ?_
  rw [decide_eq_true (by omega)]
  exact bad
theorem refpick_l1 (seed:ByteArray) (hs:seed.size≤64) (n kk:Nat) (hn:n≤4096) (hk:kk≤n):∀ (c i:Nat) (L:List Int) (u:Int),i+c=kk→L.length=n→0≤u→u+8 * c+8≤1000000000 →
  Ev (fun k=>mosaicref04_Gen_Pick.l1 k (n:Int) (kk:Int) L (i:Int) seed u (L.take i)) (seed,(pickG seed n c i L u).2,(pickG seed n c i L u).1.take kk)
 | 0,i,L,u,h,hL,h0,hu=>by
  refine Ev.succ ?_
  simp only [mosaicref04_Gen_Pick.l1]
  refine Ev.neg (by omega) (Ev.some_ ?_)
  rw [show i=kk by omega]
  rfl
 | c+1,i,L,u,h,hL,h0,hu=>by
  have e1:=refbelow_ev seed u ((n:Int) - i) hs h0 (by omega)
  have hb:=belowP_range seed u ((n:Int) - i) hs h0 (by omega)
  have hb1:=hb.2.1 (by omega) (by omega)
  rw [pickG]
  generalize hd:belowP seed u ((n:Int) - i)=d at e1 hb hb1 ⊢
  have e':=refpick_l1 seed hs n kk hn hk c (i+1) (swapL L i ((i:Int)+d.1).toNat) (u+d.2) (by omega) (by rw [swapL_length];exact hL) (by omega) (by omega)
  refine Ev.succ ?_
  simp only [mosaicref04_Gen_Pick.l1]
  rw [wrap_of (x:=(n:Int) - i) (by omega) (by omega)]
  refine Ev.pos (by omega) (Ev.bind e1 ?_)
  simp only []
  rw [wrap_of (x:=(i:Int)+d.1) (by omega) (by omega),wrap_succ i (by omega)]
  refine Ev.pos (by omega) (Ev.pos (by omega) (Ev.pos (by omega) (Ev.pos (by omega) ?_)))
  rw [Int.toNat_natCast,rd_nat,show rd L ((i:Int)+d.1)=L.getD ((i:Int)+d.1).toNat 0 from rfl]
  show Ev (fun K=>(some (swapL L i ((i:Int)+d.1).toNat)).bind _) _
  refine Ev.some_bind (Ev.pos (by rw [List.length_take];omega) ?_)
  have ht:(swapL L i ((i:Int)+d.1).toNat).take (i+1)=L.take i ++ [rd (swapL L i ((i:Int)+d.1).toNat) (i:Int)]:=by
   have hlt:i < (swapL L i ((i:Int)+d.1).toNat).length:=by rw [swapL_length];omega
   rw [List.take_succ_eq_append_getElem hlt,swapL_take L i _ (by omega),rd_lt _ i hlt]
  rw [← ht]
  exact e'
theorem refpick_l0 (seed:ByteArray) (n kk:Nat) (hn:n≤4096) (u:Int) (r:ByteArray×Int×List Int) (hr:Ev (fun k=>mosaicref04_Gen_Pick.l1 k (n:Int) (kk:Int) (rangeI n) 0 seed u []) r) :
  ∀ (d i:Nat),i+d=n→Ev (fun k=>mosaicref04_Gen_Pick.l0 k (n:Int) (kk:Int) (rangeI i) (i:Int) seed u) r
 | 0,i,h=>by
  refine Ev.succ ?_
  simp only [mosaicref04_Gen_Pick.l0]
  rw [show i=n by omega]
  exact Ev.neg (by omega) hr
 | d+1,i,h=>by
  refine Ev.succ ?_
  simp only [mosaicref04_Gen_Pick.l0]
  rw [rangeI_length,wrap_succ i (by omega),← rangeI_succ]
  exact Ev.pos (by omega) (Ev.pos (by omega) (refpick_l0 seed n kk hn u r hr d (i+1) (by omega)))
theorem refpick_ev (seed:ByteArray) (u n k:Int) (hs:seed.size≤64) (h0:0≤u) (hu:u≤900000000):Ev (fun K=>mosaicref04_Gen_Pick.f K seed u n k) (seed,(pickP seed u n k).2,(pickP seed u n k).1):=by
 unfold mosaicref04_Gen_Pick.f pickP
 have bad:Ev (fun K=>mosaicref04_Gen_Pick.j0 K n k true seed u) (seed,u,[]):=by
  refine Ev.succ ?_
  simp only [mosaicref04_Gen_Pick.j0]
  exact Ev.pos (by simp) (Ev.some_ rfl)
 by_cases h:0≤n∧n≤4096∧0≤k∧k≤n
 ·
  rw [if_pos h]
  obtain ⟨n,rfl⟩:=Int.eq_ofNat_of_zero_le h.1
  obtain ⟨k,rfl⟩:=Int.eq_ofNat_of_zero_le h.2.2.1
  rw [Int.toNat_natCast,Int.toNat_natCast]
  have e':=refpick_l1 seed hs n k (by omega) (by omega) k 0 (rangeI n) u (by omega) (rangeI_length n) h0 (by omega)
  refine Ev.neg (by omega) (Ev.neg (by omega) (Ev.neg (by omega) ?_))
  rw [decide_eq_false (by omega)]
  refine Ev.succ ?_
  simp only [mosaicref04_Gen_Pick.j0]
  refine Ev.neg (by simp) ?_
  exact refpick_l0 seed n k (by omega) u _ e' n 0 (by omega)
 ·
  rw [if_neg h]
  by_cases h1:n < 0
  ·
   exact Ev.pos h1 bad
  refine Ev.neg h1 ?_
  by_cases h2:n > 4096
  ·
   exact Ev.pos h2 bad
  refine Ev.neg h2 ?_
  by_cases h3:k < 0
  ·
   exact Ev.pos h3 bad
  refine Ev.neg h3 ?_
  rw [decide_eq_true (by omega)]
  exact bad
theorem pickP_used (seed:ByteArray) (u n k:Int) (hs:seed.size≤64) (h0:0≤u) (hu:u≤900000000) (hn:n≤200∨4096 < n):u≤(pickP seed u n k).2∧(pickP seed u n k).2≤u+1600:=by
 unfold pickP
 split
 ·
  rename_i h
  have:=pickG_range seed n.toNat hs k.toNat 0 (rangeI n.toNat) u h0 (by omega)
  exact ⟨this.2.1,by have:=this.2.2;simp only [];omega⟩
 ·
  exact ⟨by simp,by simp;omega⟩
theorem same4_l0 (l:List Int) (hl:l.length≤9223372036854775806):∀ (d i:Nat),i+d=l.length→Ev (fun k=>mosaicref04_Same.l0 k l l (i:Int)) true
 | 0,i,h=>by
  refine Ev.succ ?_
  simp only [mosaicref04_Same.l0]
  exact Ev.neg (by omega) (Ev.some_ rfl)
 | d+1,i,h=>by
  refine Ev.succ ?_
  simp only [mosaicref04_Same.l0]
  rw [wrap_succ i (by omega)]
  exact Ev.pos (by omega) (Ev.pos (by omega) (Ev.pos (by omega) (Ev.pos (by simp) (same4_l0 l hl d (i+1) (by omega)))))
theorem same4_ev (l:List Int) (hl:l.length≤9223372036854775806):Ev (fun k=>mosaicref04_Same.f k l l) true:=by
 unfold mosaicref04_Same.f
 exact Ev.pos rfl (same4_l0 l hl l.length 0 (by omega))
theorem used_f (s:ByteArray) (u:Int) (b:ByteArray):prng_Gen_Used.f s u b=some (u,s,u,b):=rfl
theorem new_f (s:ByteArray) (h:s.size≤64):prng_New.f s=some (s,0,⟨#[]⟩):=by
 unfold prng_New.f
 exact if_neg (by omega)
theorem x_size:(⟨#[120]⟩:ByteArray).size=1:=rfl
theorem awake04:Ev (fun k=>mosaiclaw04_awake.f k) true:=by
 unfold mosaiclaw04_awake.f
 have hc:chooseP [4294967295,7] 10=(7,2):=by decide +kernel
 have h1:=choose_ev [4294967295,7] 10 (fun x hx=>by simp at hx;rcases hx with rfl|rfl <;> omega) (by simp)
 rw [hc] at h1
 refine Ev.bind h1 (Ev.call (new_f _ (by rw [x_size];omega)) ?_)
 obtain ⟨b',g',e'⟩:=pick_ev ⟨#[120]⟩ 0 1 1 ⟨#[]⟩ (GenI.start _ (by rw [x_size];omega) _) (by omega)
 refine Ev.bind e' ?_
 have hp:(pickP ⟨#[120]⟩ 0 1 1).1=[0]:=by
  have hb:=belowP_range ⟨#[120]⟩ 0 1 (by rw [x_size];omega) (by omega) (by omega)
  have hb1:=hb.2.1 (by omega) (by omega)
  have hz:(belowP ⟨#[120]⟩ 0 1).1=0:=by omega
  unfold pickP
  rw [if_pos (by omega)]
  have e1:(1:Int).toNat=1:=rfl
  have e2:((1:Nat):Int) - ((0:Nat):Int)=1:=rfl
  simp only [e1]
  rw [pickG,pickG,e2,hz]
  decide
 simp only []
 rw [hp]
 have hsz:=blockB_size ⟨#[120]⟩ 0 ⟨by omega,by omega,by rw [x_size];omega⟩
 refine Ev.pos (by simp) (Ev.pos (by simp) (Ev.pos (by simp) (Ev.pos (by simp) (Ev.pos (by decide) (Ev.bind (block_ev _ _ (by rw [x_size];omega)) (Ev.some_ ?_))))))
 rw [hsz]
 rfl
end Go.Proofs.Ytelcaepenfjloaa.Pure
/-! #### PurePrngDraws -/
/- The pure statement of PrngDraws. -/
namespace Go.Proofs.Ytelcaepenfjloaa.Pure
open Go.RowKit Go.Proofs.Ytelcaepenfjloaa.Print Go.Proofs.YtelcaepenfjloaaW.PrintWords Go.Proofs.YtelcaepenfjloaaW.PrintLast Go.Proofs.YtelcaepenfjloaaW.PrintMore
set_option linter.unusedVariables false
theorem pickP_length (seed:ByteArray) (u n k:Int) (hs:seed.size≤64) (h0:0≤u) (hu:u≤900000000):(pickP seed u n k).1.length≤4096:=by
 unfold pickP
 split
 ·
  rename_i h
  simp only [List.length_take]
  omega
 ·
  simp
theorem pdraws_l0 (seed:ByteArray) (l:List S90):∀ (d i:Nat) (u:Int) (b:ByteArray),i+d=20→GenI seed u b→u≤1600 * i→Ev (fun k=>mosaiclaw04_PrngDraws.l0 k l (i:Int) seed u b seed u) true
 | d,i,u,b,h,hg,hu=>by
  have fin:Ev (fun k=>mosaiclaw04_PrngDraws.j2 k l (i:Int) false seed u b seed u) true:=by
   refine Ev.succ ?_
   simp only [mosaiclaw04_PrngDraws.j2]
   exact Ev.neg (by simp) (Ev.some_ rfl)
  refine Ev.succ ?_
  simp only [mosaiclaw04_PrngDraws.l0]
  by_cases h1:(i:Int) < (l.length:Int)
  ·
   refine Ev.pos h1 ?_
   cases d with
   | zero =>
    rw [decide_eq_false (by omega)]
    exact fin
   | succ d =>
    have ih:=fun (u':Int) (b':ByteArray) (hg':GenI seed u' b') (hu':u'≤u+1600)=>pdraws_l0 seed l d (i+1) u' b' (by omega) hg' (by omega)
    rw [decide_eq_true (by omega)]
    refine Ev.succ ?_
    simp only [mosaiclaw04_PrngDraws.j2]
    rw [wrap_succ i (by omega)]
    refine Ev.pos (by simp) (Ev.pos (by omega) (Ev.pos h1 ?_))
    generalize rd_T90 l (i:Int)=x
    by_cases k0:x.f0=0
    ·
     have hr:=wordI_range seed u ⟨hg.2.1,by omega,hg.1⟩
     refine Ev.pos k0 (Ev.bind (refWord_ev seed u hg.1 hg.2.1 (by omega)) (Ev.bind (word_ev seed u b hg (by omega)) ?_))
     simp only []
     refine Ev.pos (wrap_of (by omega) (by omega)) (Ev.call (used_f _ _ _) ?_)
     exact Ev.pos rfl (ih (u+1) _ hg.next (by omega))
    refine Ev.neg k0 ?_
    by_cases k1:x.f0=1
    ·
     obtain ⟨b',g',e'⟩:=below_ev seed u x.f1 b hg (by omega)
     have hb:=belowP_range seed u x.f1 hg.1 hg.2.1 (by omega)
     refine Ev.pos k1 (Ev.bind (refbelow_ev seed u x.f1 hg.1 hg.2.1 (by omega)) (Ev.bind e' ?_))
     refine Ev.pos rfl (Ev.call (used_f _ _ _) ?_)
     exact Ev.pos rfl (ih (u+(belowP seed u x.f1).2) _ g' (by omega))
    refine Ev.neg k1 ?_
    by_cases k2:x.f0=2
    ·
     refine Ev.pos k2 ?_
     have hj:∀ (n q0 q2:Int),n≤200∨4096 < n→Ev (fun k=>mosaiclaw04_PrngDraws.j4 k l (i:Int) seed u b seed u q0 n q2) true:=by
      intro n q0 q2 hn
      refine Ev.succ ?_
      simp only [mosaiclaw04_PrngDraws.j4]
      rw [wrap_succ i (by omega)]
      obtain ⟨b',g',e'⟩:=pick_ev seed u n q2 b hg (by omega)
      have hp:=pickP_used seed u n q2 hg.1 hg.2.1 (by omega) hn
      have hl:=pickP_length seed u n q2 hg.1 hg.2.1 (by omega)
      refine Ev.bind (refpick_ev seed u n q2 hg.1 hg.2.1 (by omega)) (Ev.bind e' (Ev.bind (same4_ev (pickP seed u n q2).1 (by omega)) (Ev.pos (by simp) (Ev.call (used_f _ _ _) ?_))))
      exact Ev.pos rfl (ih (pickP seed u n q2).2 _ g' (by omega))
     have hj3:∀ (f:Bool) (q0 n q2:Int),(f=false→n≤200∨4096 < n)→Ev (fun k=>mosaiclaw04_PrngDraws.j3 k l (i:Int) f seed u b seed u q0 n q2) true:=by
      intro f q0 n q2 hf
      refine Ev.succ ?_
      simp only [mosaiclaw04_PrngDraws.j3]
      cases f with
      | true=>exact Ev.pos (by simp) (hj 200 q0 q2 (by omega))
      | false=>exact Ev.neg (by simp) (hj n q0 q2 (hf rfl))
     by_cases c:x.f1 > 200
     ·
      refine Ev.pos c (hj3 _ _ _ _ fun hd=>?_)
      have:=of_decide_eq_false hd
      omega
     ·
      exact Ev.neg c (hj3 _ _ _ _ fun _=>by omega)
    ·
     refine Ev.neg k2 (Ev.call (used_f _ _ _) ?_)
     exact Ev.pos rfl (ih u _ hg (by omega))
  ·
   exact Ev.neg h1 fin
theorem PrngDraws:mosaiclaw04_PrngDrawsW.Pure:=by
 intro s l hs hl
 refine Ev.rounds ?_
 unfold mosaiclaw04_PrngDrawsW.f
 by_cases h:64 < (s.size:Int)
 ·
  refine Ev.pos h ?_
  obtain ⟨k1,a1⟩:=awake04
  refine ⟨k1,fun k hk=>?_⟩
  simp only []
  rw [if_pos (a1 k hk)]
 refine Ev.neg h ?_
 unfold mosaiclaw04_PrngDraws.f
 refine Ev.call (new_f s (by omega)) (Ev.bind awake04 (Ev.pos (by simp) (Ev.neg (by omega) (Ev.succ ?_))))
 simp only [mosaiclaw04_PrngDraws.j0]
 exact Ev.neg (by simp) (pdraws_l0 s l 20 0 0 _ (by omega) (GenI.start s (by omega) _) (by omega))
end Go.Proofs.Ytelcaepenfjloaa.Pure
/-! #### LawPrngDraws -/
/- The given statement PrngDrawsSaid is proved: the law mosaiclaw04_PrngDrawsW returns true for every input, without a panic; out of its pure statement (YtelcaepenfjloaaPurePrngDraws) and the walks of the functions that it reaches; no condition beyond the statement's own. -/
namespace Go.Proofs.Ytelcaepenfjloaa.prngDraws
open Go.ChangeShapes Go.WideShapes Go.ChangeAt Go.RowKit Go.Proofs.Ytelcaepenfjloaa.Print Go.Proofs.YtelcaepenfjloaaW.PrintWords Go.Proofs.Ytelcaepenfjloaa.Open
open Go.ChangeMaps (open_string shut_string)
set_option linter.unusedVariables false
set_option linter.unusedSimpArgs false
theorem own:ownKnob Try.prog.godebug=none:=by kernel_rfl
theorem laidOut:laidOutB Try.prog=true:=by kernel_rfl
set_option maxRecDepth 100000 in
theorem lifted (os:Os) (started:os.Started) (H:Type) (enc:TypeId×Value→H) :
  ReturnsInHanded {} Try.checked os 17 .any (Rows.prngDrawsSpec.pre6 enc Try.prog Try.f17 Rows.prngDrawsRow.domain false) (Rows.prngDrawsSpec.post enc Try.prog Try.f17 false true false false):=by
 refine returnsInHanded_of_change_sized (C:=Try.checked) own started (by kernel_rfl) Try.func17
  (ChangeSpec.witness6 (enc:=enc) (C:=Try.checked) false ⟨#[],#[.string ByteArray.empty,.slice none 0 0],[]⟩ 8 (by kernel_rfl) (by kernel_rfl) (by kernel_rfl) (by kernel_rfl)) ?_
 intro W base args ds gs before hval0 hW hcnd hsz0 _
 have hval:∀ (j:Nat) t v,Try.f17.params[j]?=some t→args[j]?=some v→Value.okWide Try.prog W .any base t v:=hval0
 have hW':=hW
 obtain ⟨p,q,hA0,hV,rfl,hfz,hnd⟩:=hW
 have hA:DataW.TrodAll enc Try.prog W 0 (fun _=>true) true Try.f17.params.toList args.toList ds p:=hA0
 rw [Try.params17] at hA hval
 obtain ⟨v0,vs0,d0,ds0,p0,q0,hargs,rfl,rfl,h0,r0⟩:=trodAll_cons hA
 obtain ⟨v1,vs1,d1,ds1,p1,q1,rfl,rfl,rfl,h1,r1⟩:=trodAll_cons r0
 obtain ⟨rfl,rfl,rfl⟩:=trodAll_nil r1
 obtain rfl:args=#[v0,v1]:=by cases args;simp_all
 obtain ⟨rfl,rfl⟩:=trodVars_none hV
 obtain ⟨a0,rfl,rfl,rfl,y0⟩:=open_string Try.underlying9 (hval 0 9 v0 rfl rfl) h0
 have lt1:∀ x∈p1,x.block < W.heap.size:=by obtain ⟨m,hm⟩:=h1;exact DataW.trod_lt m _ _ _ hm
 have k1:=h1
 have one1:v1.cells.toList=[v1]:=by obtain ⟨a_,len_,cap_,rfl⟩:=okWide_slice Try.underlying88 (hval 1 88 v1 rfl rfl);rfl
 obtain ⟨A1,c1,l1,rfl,hc1,hr1,hq1⟩:=arg_slice opens88 one1 h1
 clear hA0 hval0 hsz0
 obtain ⟨kk,hkk⟩:=Pure.PrngDraws (a0) (l1) y0 hq1
 refine (mosaiclaw04_PrngDrawsW.callsT kk a0 A1 c1 l1 W hr1 hc1 hkk).mono ?_
 rintro e W' ⟨rfl,hd_⟩
 have bel:Below W.heap.size W W':=hd_
 exact ⟨_,rfl,_,_,_,[],_,[],hW',trodAll_mk1 (shut_bool Try.underlying4 _),(trodAll_cons_mk (shut_string Try.underlying9 y0) (trodAll_cons_mk (Below.trod laidOut (by kernel_rfl) (of_decide_eq_true (by kernel_rfl)) k1 bel lt1) trodAll_mk0)),rfl,bel.frame _,fun h=>by cases h⟩
theorem facts:joinedFacts Try.pinned.checked.prog 17 Try.f17 Rows.prngDrawsSpec Rows.prngDrawsRow=true:=by
 unfold joinedFacts
 simp only [Bool.and_eq_true]
 repeat' apply And.intro
 any_goals (with_reducible exact Fct.mayEnter)
 any_goals ((with_reducible refine Fct.lifts _ ?_);rfl)
 any_goals ((with_reducible refine Fct.make_ _ ?_);rfl)
 all_goals (as_aux_lemma=>kernel_rfl)
theorem over:Rows.prngDrawsRow.holds Try.pinned (OpenSpec.ofChange Rows.prngDrawsSpec) :=
 OpenClaim.holds_of_wide 17 Try.f17 rfl rfl rfl rfl rfl rfl rfl ⟨rfl,rfl,rfl,rfl,rfl⟩ rfl rfl rfl rfl rfl (by as_aux_lemma=>kernel_rfl) Try.func17 facts
  (of_decide_eq_true (by as_aux_lemma=>kernel_rfl)) (by unfold Func.isWrapper;first|(rw [if_pos (by decide +kernel)];as_aux_lemma=>kernel_rfl)|(rw [if_neg (by decide +kernel)];exact ⟨rfl,rfl⟩))
  (fun os started H enc _=>lifted os started H enc)
theorem proved:Rows.PrngDrawsSaid:=over
#print axioms proved
end Go.Proofs.Ytelcaepenfjloaa.prngDraws
namespace Go.Proofs.Ytelcaepenfjloaa
/-- The row, under a short name, for the claim. -/
theorem prngDraws_holds:Rows.PrngDrawsSaid:=prngDraws.proved
end Go.Proofs.Ytelcaepenfjloaa
