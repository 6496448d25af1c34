/- Parts: T8W, T8S1, T8P1, T8E2, T8R1, T8A0, T8N1, T8R2, T8P2, T8P3, T8C1, T8C2, T8N2. -/
import Derived.Test.YtpkgpmmcbpfenaaGreatAF1
import Derived.Test.YtpkgpmmcbpfenaaGreatAv3
import Derived.Laws.Bits64b
import Derived.Test.YtpkgpmmcbpfenaaGreatAF3
import Derived.Test.YtpkgpmmcbpfenaaGreatAF7
import Derived.Test.YtpkgpmmcbpfenaaGreatAF8
import Derived.Test.YtpkgpmmcbpfenaaGreatAF2
import Derived.Test.YtpkgpmmcbpfenaaGreatAF4
namespace Go.Avl.T8
open Go Go.RowKit Go.Proofs Go.Avl
set_option linter.unusedVariables false
set_option maxRecDepth 100000
abbrev cy (l:List CN):AV:=.fz 3 (l.map Es)
theorem bT:A9 Tryz.prog 22=some false:=by rfl
abbrev av:ByteArray→Prop:=(fun s:ByteArray=>s.size≤9223372036854775807)
theorem bW:Ds Tryz.prog 9 AN av:=Lk Tryz.underlying9
abbrev co:Int→Prop:=(fun n:Int=>(Lit.int .i64 n).wf=true)
theorem dB:Ds Tryz.prog 3 AB co:=Rz Tryz.underlying3
abbrev Zu:CN→Prop:=(fun x:CN=>av x.f0∧co x.f1∧av x.f2)
theorem bi:Ds Tryz.prog 53 Es Zu:=(Mq Tryz.underlying53 Om (GA rfl X4 (by decide) bW (GA rfl Bb (by decide) dB (GA rfl X4 (by decide) bW (PG _))))).map (fun p=>CN.mk p.1 p.2.1 p.2.2.1) (fun _=>rfl) (fun _ h=>⟨h.1,h.2.1,h.2.2.1⟩)
abbrev aX:(List CN)→Prop:=(fun l:List CN=>l.length≤9223372036854775807∧∀ a∈l,Zu a)
theorem cf:Ds Tryz.prog 22 cy aX:=N1 Tryz.underlying22 Om bi
end Go.Avl.T8
namespace Go.Avl.T8
open Go Go.RowKit Go.Proofs Go.Avl
set_option linter.all false
set_option maxRecDepth 10000
def U (a:Vector Int 4):Prop:=∀ j:Nat,j<4→0≤AZ a (j:Int)∧AZ a (j:Int)<18446744073709551616
def wd (a:Vector Int 4) (j:Nat):Nat:=(AZ a (j:Int)).toNat
def tb (a:Vector Int 4) (b:Nat):Bool:=(wd a (b / 64)).testBit (b%64)
theorem Gj {a:Vector Int 4} (h:U a) (j:Nat) (hj:j<4):AZ a (j:Int)=(wd a j:Int)∧wd a j<18446744073709551616:=by
 have:=h j hj;unfold wd;omega
theorem Dj (v:Vector Int 4) (i j:Nat) (x:Int) (hi:i<4) (hj:j<4):AZ (BP v (i:Int) x) (j:Int)=if j=i then x else AZ v (j:Int):=by
 unfold AZ BP;rw[Int.toNat_natCast,Int.toNat_natCast,Vector.toList_setIfInBounds,List.getD,List.getD,List.getElem?_set];by_cases e:i=j
 ·subst e;rw[if_pos rfl,if_pos rfl,if_pos (by simpa using hi)];rfl
 ·rw[if_neg e,if_neg (fun h=>e h.symm)]
theorem bZ {a c:Vector Int 4} (h:∀ j:Nat,j<4→AZ a (j:Int)=AZ c (j:Int)):a=c:=by
 apply Vector.toList_inj.1;apply List.ext_getElem
 ·simp
 ·intro j h1 h2;have hj:j<4:=by simpa using h1
  have:=h j hj;unfold AZ at this;rw[Int.toNat_natCast,List.getD,List.getD,List.getElem?_eq_getElem h1,List.getElem?_eq_getElem h2]at this;simpa using this
theorem Mp {a c:Vector Int 4} (ha:U a) (hc:U c) (h:∀ b,b<256→tb a b=tb c b):a=c:=by
 apply bZ;intro j hj;obtain⟨e1,l1⟩:=Gj ha j hj;obtain⟨e2,l2⟩:=Gj hc j hj;rw[e1,e2];congr 1;apply Nat.eq_of_testBit_eq;intro i;by_cases hi:i<64
 ·have:=h (64*j+i) (by omega);unfold tb at this;rwa [show (64*j+i) / 64=j by omega,show (64*j+i)%64=i by omega]at this
 ·have hp:18446744073709551616≤2 ^ i:=Nat.le_trans (by decide:18446744073709551616≤2 ^ 64) (Nat.pow_le_pow_right (by omega) (by omega));rw[Nat.testBit_lt_two_pow (by omega),Nat.testBit_lt_two_pow (by omega)]
theorem GI:U (Vector.replicate 4 (0:Int)):=by
 intro j hj;have:AZ (Vector.replicate 4 (0:Int)) (j:Int)=0:=by
  have:j=0∨j=1∨j=2∨j=3:=by omega
  rcases this with rfl|rfl|rfl|rfl<;>rfl
 rw[this];omega
theorem HQ (b:Nat) (hb:b<256):tb (Vector.replicate 4 (0:Int)) b=false:=by
 have hj:b / 64<4:=by omega
 have:AZ (Vector.replicate 4 (0:Int)) ((b / 64:Nat):Int)=0:=by
  generalize b / 64=j at hj;have:j=0∨j=1∨j=2∨j=3:=by omega
  rcases this with rfl|rfl|rfl|rfl<;>rfl
 unfold tb wd;rw[this];simp
theorem Sx {w:Nat} (hw:w<18446744073709551616) {i:Nat} (hi:i<64):bits .or .u64 (w:Int) (IntKind.u64.wrap ((1:Int)*2 ^ (min i IntKind.u64.bits)))=((w ||| 2 ^ i:Nat):Int)∧w ||| 2 ^ i<18446744073709551616:=by
 have hp:(2:Nat) ^ i<18446744073709551616:=Nat.lt_of_lt_of_le (Nat.pow_lt_pow_right (by omega) hi) (by decide:2 ^ 64≤18446744073709551616);have e:IntKind.u64.wrap ((1:Int)*2 ^ (min i IntKind.u64.bits))=((2 ^ i:Nat):Int):=by
  rw[show min i IntKind.u64.bits=i by show min i 64=i;omega];have:=G2 (1*2 ^ i);unfold u64 at this;rw[this];have e3:((1:Int)*2 ^ i)=((2 ^ i:Nat):Int):=by simp
  rw[e3];generalize 2 ^ i=q at hp⊢
  omega
 rw[e,bits_or_u64_nat w (2 ^ i) hw hp];exact⟨rfl,Nat.or_lt_two_pow (n:=64) hw hp⟩
theorem Mb {a:Vector Int 4} (h:U a) {b:Nat} (hb:b<256):∀ c,c=BP a ((b / 64:Nat):Int) (bits .or .u64 (AZ a ((b / 64:Nat):Int)) (IntKind.u64.wrap ((1:Int)*2 ^ (min (b%64) IntKind.u64.bits))))→U c∧∀ x,x<256→tb c x=(tb a x||decide (x=b)):=by
 rintro c rfl;have hj:b / 64<4:=by omega
 obtain⟨e,l⟩:=Gj h (b / 64) hj;obtain⟨o1,o2⟩:=Sx l (i:=b%64) (by omega);rw[e,o1];constructor
 ·intro j hj';rw[Dj _ _ _ _ hj hj'];split
  ·omega
  ·exact h j hj'
 ·intro x hx;unfold tb wd;rw[Dj _ _ _ _ hj (by omega)];by_cases q:x / 64=b / 64
  ·rw[if_pos q,Int.toNat_natCast,Nat.testBit_or,Nat.testBit_two_pow,q];congr 1;rw[decide_eq_decide];omega
  ·rw[if_neg q];have:decide (x=b)=false:=decide_eq_false (fun e=>q (by rw[e]));rw[this,Bool.or_false]
theorem Xs (x k:Nat) (hk:k≤64):Int.fdiv (x:Int) (2 ^ (min (k:Int).toNat IntKind.u64.bits))=((x / 2 ^ k:Nat):Int):=by
 rw[Int.toNat_natCast,show min k IntKind.u64.bits=k by show min k 64=k;omega,Int.fdiv_eq_ediv_of_nonneg _ (by exact_mod_cast Nat.zero_le _)]
 norm_cast
theorem Uw (i:Nat) (hi:i<100000):IntKind.i64.wrap ((i:Int).tdiv 64)=((i / 64:Nat):Int):=by
 have h1:(i:Int).tdiv 64=((i / 64:Nat):Int):=by rw[Int.tdiv_eq_ediv_of_nonneg (by omega)];omega
 rw[h1];have:=A1 (n:=((i / 64:Nat):Int)) (by omega) (by omega);exact this
theorem XT (i:Nat) (hi:i<100000):u64 ((i:Int).tmod 64)=((i%64:Nat):Int):=by
 have h1:(i:Int).tmod 64=((i%64:Nat):Int):=by rw[Int.tmod_eq_emod_of_nonneg (by omega)];omega
 rw[h1,G2];omega
theorem MY (i:Nat):(i:Int).tmod 64=((i%64:Nat):Int):=by rw[Int.tmod_eq_emod_of_nonneg (by omega)];omega
theorem We (i:Nat) (hi:i<256):IntKind.u8.wrap ((i:Int).tdiv 64)=((i / 64:Nat):Int):=by
 have h1:(i:Int).tdiv 64=((i / 64:Nat):Int):=by rw[Int.tdiv_eq_ediv_of_nonneg (by omega)];omega
 rw[h1];have:=HW (n:=((i / 64:Nat):Int)) (by omega) (by omega);exact this
theorem Pj {a:Vector Int 4} (ha:U a) {x:Nat} (hx:x<256):YE 20000 a (x:Int)=some (tb a x):=by
 obtain⟨e,l⟩:=Gj ha (x / 64) (by omega);unfold YE;rw[We x hx,MY,if_pos ⟨by omega,by omega⟩,if_pos (by omega),e,Xs _ (x%64) (by omega)];have hb:=bits_and_u64_nat (wd a (x / 64) / 2 ^ (x%64)) 1 (Nat.lt_of_le_of_lt (Nat.div_le_self _ _) l) (by omega);have hb':bits .and .u64 ((wd a (x / 64) / 2 ^ (x%64):Nat):Int) 1=_:=hb;rw[hb'];unfold tb;congr 1;rw[Nat.and_one_is_mod];have h2:(wd a (x / 64)).testBit (x%64)=(wd a (x / 64) / 2 ^ (x%64)).testBit 0:=by
  rw[Nat.testBit_div_two_pow,Nat.zero_add]
 rw[h2,Nat.testBit_zero,decide_eq_decide];omega
theorem CP {x:Int} (h0: -1000000000000≤x) (h1:x≤1000000000000):AG x=x:=A1 (by omega) (by omega)
theorem Ta (x:Nat) (hx:x<256):∀ (m i fuel:Nat) (w:Nat),i+m=x%64→m<fuel→w<18446744073709551616→
 DZ 20000 (x:Int) fuel (w:Int) (i:Int)=some (w.testBit m)
 | 0,i,f+1,w,h,_,hw=>by
   rw[DZ.eq_2,MY,if_neg (by omega),Il,Nat.testBit_zero];congr 1;rw[decide_eq_decide,Int.tmod_eq_emod_of_nonneg (by omega)];omega
 | m+1,i,f+1,w,h,hf,hw=>by
   have e:IntKind.u64.wrap ((w:Int).tdiv 2)=((w / 2:Nat):Int):=by
    rw[Int.tdiv_eq_ediv_of_nonneg (by omega)];have:=G2 ((w:Int) / 2);unfold u64 at this;rw[this];omega
   rw[DZ.eq_2,MY,if_pos (by omega),e,A1 (by omega) (by omega)];have:=Ta x hx m (i+1) f (w / 2) (by omega) (by omega) (by omega);rw[Nat.testBit_succ];exact_mod_cast this
theorem Ld {a:Vector Int 4} (ha:U a) {x:Nat} (hx:x<256):PQ 20000 a (x:Int)=some (tb a x):=by
 obtain⟨e,l⟩:=Gj ha (x / 64) (by omega);unfold PQ;rw[Uw x (by omega),if_pos ⟨by omega,by omega⟩,e];have:=Ta x hx (x%64) 0 20000 (wd a (x / 64)) (by omega) (by omega) l;exact this
theorem Y9 (p1:Vector Int 4) (h1:U p1):∀ (m i fuel:Nat) (a:Vector Int 4),i+m=4→m<fuel→U a→
 ∃ c,Dc 20000 p1 fuel a i=some c∧U c∧∀ j:Nat,j<4→wd c j=if i≤j then wd a j ||| wd p1 j else wd a j
 | 0,i,f+1,a,h,_,ha=>by
   rw[Dc.eq_2,if_neg (by omega),Ip];exact⟨a,rfl,ha,fun j hj=>by rw[if_neg (by omega)]⟩
 | m+1,i,f+1,a,h,hf,ha=>by
   have hi:i<4:=by omega
   have g:0≤(i:Int)∧(i:Int)<4:=⟨by omega,by omega⟩;obtain⟨e1,l1⟩:=Gj ha i hi;obtain⟨e2,l2⟩:=Gj h1 i hi;have ho:bits .or .u64 (AZ a (i:Int)) (AZ p1 (i:Int))=((wd a i ||| wd p1 i:Nat):Int):=by rw[e1,e2,bits_or_u64_nat _ _ l1 l2]
   have hlt:wd a i ||| wd p1 i<18446744073709551616:=Nat.or_lt_two_pow (n:=64) l1 l2;have hU:U (BP a (i:Int) ((wd a i ||| wd p1 i:Nat):Int)):=by
    intro j hj;rw[Dj _ _ _ _ hi hj];split
    ·omega
    ·exact ha j hj
   obtain⟨c,c1,c2,c3⟩:=Y9 p1 h1 m (i+1) f (BP a (i:Int) ((wd a i ||| wd p1 i:Nat):Int)) (by omega) (by omega) hU;rw[Dc.eq_2,if_pos g.2,if_pos g,if_pos g,if_pos g,ho,A1 (by omega) (by omega)];refine⟨c,by exact_mod_cast c1,c2,fun j hj=>?_⟩;rw[c3 j hj];have hw:wd (BP a (i:Int) ((wd a i ||| wd p1 i:Nat):Int)) j=if j=i then wd a i ||| wd p1 i else wd a j:=by
    unfold wd;rw[Dj _ _ _ _ hi hj];by_cases q:j=i
    ·rw[if_pos q,if_pos q,Int.toNat_natCast]
    ·rw[if_neg q,if_neg q]
   rw[hw];by_cases q:j=i
   ·subst q;rw[if_neg (by omega),if_pos rfl,if_pos (by omega)]
   ·rw[if_neg q];by_cases r:i+1≤j
    ·rw[if_pos r,if_pos (by omega)]
    ·rw[if_neg r,if_neg (by omega)]
theorem or_eq {a b:Vector Int 4} (ha:U a) (hb:U b):∃ c,VV 20000 a b=some c∧U c∧∀ x,x<256→tb c x=(tb a x||tb b x):=by
 obtain⟨c,c1,c2,c3⟩:=Y9 b hb 4 0 20000 a (by omega) (by omega) ha;refine⟨c,c1,c2,fun x hx=>?_⟩;unfold tb;rw[c3 _ (by omega),if_pos (by omega),Nat.testBit_or]
theorem P2 (t:Nat) (ht:t<256):∀ (m i fuel:Nat) (a:Vector Int 4),t+1-i=m→m<fuel→i≤256→U a→
 ∃ c,DW 20000 (t:Int) fuel a i=some c∧U c∧∀ x,x<256→tb c x=(tb a x||decide (i≤x∧x≤t))
 | 0,i,f+1,a,h,_,hi,ha=>by
   rw[DW.eq_2,A1 (n:=(t:Int)) (by omega) (by omega),if_neg (by omega),Ir];exact⟨a,rfl,ha,fun x hx=>by rw[decide_eq_false (by omega),Bool.or_false]⟩
 | m+1,i,f+1,a,h,hf,hi,ha=>by
   have hib:i<256:=by omega
   have e1:IntKind.i64.wrap ((i:Int).tdiv 64)=((i / 64:Nat):Int):=by
    have h1:(i:Int).tdiv 64=((i / 64:Nat):Int):=by rw[Int.tdiv_eq_ediv_of_nonneg (by omega)];omega
    rw[h1];have:=A1 (n:=((i / 64:Nat):Int)) (by omega) (by omega);exact this
   have e2:u64 ((i:Int).tmod 64)=((i%64:Nat):Int):=by
    have h1:(i:Int).tmod 64=((i%64:Nat):Int):=by rw[Int.tmod_eq_emod_of_nonneg (by omega)];omega
    rw[h1,G2];omega
   have g:0≤((i / 64:Nat):Int)∧((i / 64:Nat):Int)<4:=⟨by omega,by omega⟩;obtain⟨p1,p2⟩:=Mb ha hib _ rfl;obtain⟨c,c1,c2,c3⟩:=P2 t ht m (i+1) f _ (by omega) (by omega) (by omega) p1;rw[DW.eq_2,A1 (n:=(t:Int)) (by omega) (by omega),if_pos (by omega),e1,e2,if_pos g,if_pos (by omega),if_pos g,Int.toNat_natCast,A1 (by omega) (by omega)];refine⟨c,by exact_mod_cast c1,c2,fun x hx=>?_⟩;rw[c3 x hx,p2 x hx,Bool.or_assoc];congr 1;rw[←Bool.decide_or,decide_eq_decide];omega
theorem Uh {f t:Nat} (hf:f<256) (ht:t<256):∃ c,Rs 20000 (f:Int) (t:Int)=some c∧U c∧∀ x,x<256→tb c x=decide (f≤x∧x≤t):=by
 obtain⟨c,c1,c2,c3⟩:=P2 t ht (t+1-f) f 20000 _ rfl (by omega) (by omega) GI;unfold Rs;rw[A1 (by omega) (by omega)];exact⟨c,c1,c2,fun x hx=>by rw[c3 x hx,HQ x hx,Bool.false_or]⟩
theorem Gf (a b:Nat) (ha:a<18446744073709551616) (hb:b<18446744073709551616):
 ∃ c:Nat,bits .andNot .u64 (a:Int) (b:Int)=(c:Int)∧c<18446744073709551616∧∀ i,i<64→c.testBit i=(a.testBit i&& !b.testBit i):=by
 have h1:(BitVec.ofInt 64 (a:Int)).toNat=a:=by
  rw[BitVec.ofInt_natCast,BitVec.toNat_ofNat];exact Nat.mod_eq_of_lt (by omega)
 have h2:(BitVec.ofInt 64 (b:Int)).toNat=b:=by
  rw[BitVec.ofInt_natCast,BitVec.toNat_ofNat];exact Nat.mod_eq_of_lt (by omega)
 have hlt:(BitVec.ofInt 64 (a:Int) &&& ~~~ BitVec.ofInt 64 (b:Int)).toNat<18446744073709551616:=BitVec.isLt _;refine⟨(BitVec.ofInt 64 (a:Int) &&& ~~~ BitVec.ofInt 64 (b:Int)).toNat,?_,hlt,fun i hi=>?_⟩
 ·show IntKind.u64.wrap ((BitVec.ofInt 64 (a:Int) &&& ~~~ BitVec.ofInt 64 (b:Int)).toNat:Int)=_;rw[IntKind.wrap_u64];omega
 ·rw[BitVec.testBit_toNat,BitVec.getLsbD_and,BitVec.getLsbD_not, ←BitVec.testBit_toNat, ←BitVec.testBit_toNat,h1,h2,decide_eq_true hi,Bool.true_and]
theorem SS (p1:Vector Int 4) (h1:U p1):∀ (m i fuel:Nat) (a:Vector Int 4),i+m=4→m<fuel→U a→
 ∃ c,De 20000 p1 fuel a i=some c∧U c∧∀ j:Nat,j<4→∀ t,t<64→(wd c j).testBit t=if i≤j then(wd a j).testBit t&& !(wd p1 j).testBit t else(wd a j).testBit t
 | 0,i,f+1,a,h,_,ha=>by
   rw[De.eq_2,if_neg (by omega),Ib];exact⟨a,rfl,ha,fun j hj t ht=>by rw[if_neg (by omega)]⟩
 | m+1,i,f+1,a,h,hf,ha=>by
   have hi:i<4:=by omega
   have g:0≤(i:Int)∧(i:Int)<4:=⟨by omega,by omega⟩;obtain⟨e1,l1⟩:=Gj ha i hi;obtain⟨e2,l2⟩:=Gj h1 i hi;obtain⟨z,z1,z2,z3⟩:=Gf _ _ l1 l2;have ho:bits .andNot .u64 (AZ a (i:Int)) (AZ p1 (i:Int))=(z:Int):=by rw[e1,e2,z1]
   have hU:U (BP a (i:Int) (z:Int)):=by
    intro j hj;rw[Dj _ _ _ _ hi hj];split
    ·omega
    ·exact ha j hj
   obtain⟨c,c1,c2,c3⟩:=SS p1 h1 m (i+1) f (BP a (i:Int) (z:Int)) (by omega) (by omega) hU;rw[De.eq_2,if_pos g.2,if_pos g,if_pos g,if_pos g,ho,A1 (by omega) (by omega)];refine⟨c,by exact_mod_cast c1,c2,fun j hj t ht=>?_⟩;rw[c3 j hj t ht];have hw:wd (BP a (i:Int) (z:Int)) j=if j=i then z else wd a j:=by
    unfold wd;rw[Dj _ _ _ _ hi hj];by_cases q:j=i
    ·rw[if_pos q,if_pos q,Int.toNat_natCast]
    ·rw[if_neg q,if_neg q]
   rw[hw];by_cases q:j=i
   ·subst q;rw[if_neg (by omega),if_pos rfl,if_pos (by omega),z3 t ht]
   ·rw[if_neg q];by_cases r:i+1≤j
    ·rw[if_pos r,if_pos (by omega)]
    ·rw[if_neg r,if_neg (by omega)]
theorem WF {a b:Vector Int 4} (ha:U a) (hb:U b):∃ c,Va 20000 a b=some c∧U c∧∀ x,x<256→tb c x=(tb a x&& !tb b x):=by
 obtain⟨c,c1,c2,c3⟩:=SS b hb 4 0 20000 a (by omega) (by omega) ha;refine⟨c,c1,c2,fun x hx=>?_⟩;unfold tb;rw[c3 _ (by omega) _ (by omega),if_pos (by omega)]
theorem QT:∃ c,Rj 20000=some c∧U c∧∀ x,x<256→tb c x=true:=by
 refine⟨_,rfl,?_⟩;have hv:∀ j:Nat,j<4→AZ ((BP (BP (BP (BP (Vector.replicate 4 (0:Int)) (0:Int) (18446744073709551615:Int)) (1:Int) (18446744073709551615:Int)) (2:Int) (18446744073709551615:Int)) (3:Int) (18446744073709551615:Int))) (j:Int)=18446744073709551615:=by
  intro j hj;have:j=0∨j=1∨j=2∨j=3:=by omega
  rcases this with rfl|rfl|rfl|rfl<;>rfl
 constructor
 ·intro j hj;rw[hv j hj];omega
 ·intro x hx;unfold tb wd;rw[hv _ (by omega)];have:=Nat.testBit_two_pow_sub_one 64 (x%64);have h2:(18446744073709551615:Int).toNat=2 ^ 64-1:=rfl;rw[h2,this];exact decide_eq_true (by omega)
theorem XY {a:Vector Int 4} (ha:U a):∃ c,Tr 20000 a=some c∧U c∧∀ x,x<256→tb c x= !tb a x:=by
 obtain⟨d,d1,d2,d3⟩:=QT;obtain⟨c,c1,c2,c3⟩:=WF d2 ha;refine⟨c,?_,c2,fun x hx=>by rw[c3 x hx,d3 x hx,Bool.true_and]⟩;unfold Tr;rw[d1,Option.bind_some,c1];rfl
theorem TY (L:List Bool):∀ (m i fuel:Nat) (a:Vector Int 4),i+m=min 256 L.length→m<fuel→U a→(∀ x,x<256→i≤x→tb a x=false)→
 ∃ c,Cy 20000 L fuel a i=some c∧U c∧∀ x,x<256→tb c x=(tb a x||(decide (i≤x)&&L.getD x false))
 | 0,i,f+1,a,h,_,ha,hz=>by
   rw[Cy.eq_2];have hb:(if(i:Int)<256 then some (decide ((i:Int)<(L.length:Int)))else some false)=some false:=by
    by_cases q:(i:Int)<256
    ·rw[if_pos q,decide_eq_false (by omega)]
    ·rw[if_neg q]
   rw[hb,Option.bind_some,if_neg (by decide),Ij];refine⟨a,rfl,ha,fun x hx=>?_⟩;by_cases q:i≤x
   ·rw[decide_eq_true q,Bool.true_and,List.getD,List.getElem?_eq_none (by omega)];simp
   ·rw[decide_eq_false q];simp
 | m+1,i,f+1,a,h,hf,ha,hz=>by
   have hi:i<256:=by omega
   have hl:i<L.length:=by omega
   have g:0≤(i:Int)∧(i:Int)<(L.length:Int):=⟨by omega,by omega⟩;have eb:AA L (i:Int)=L[i]:=by
    unfold AA;rw[show (i:Int).toNat=i by omega,List.getD,List.getElem?_eq_getElem hl];rfl
   have eg:L.getD i false=L[i]:=by rw[List.getD,List.getElem?_eq_getElem hl];rfl
   rw[Cy.eq_2,if_pos (show (i:Int)<256 by omega),decide_eq_true g.2,Option.bind_some,if_pos rfl,if_pos g,eb];by_cases q:L[i]=true
   ·obtain⟨e,l⟩:=Gj ha (i / 64) (by omega);have hsmall:wd a (i / 64)<2 ^ (i%64):=by
     apply Nat.lt_pow_two_of_testBit;intro t ht;by_cases r:t<64
     ·have:=hz (64*(i / 64)+t) (by omega) (by omega);unfold tb at this;rwa [show (64*(i / 64)+t) / 64=i / 64 by omega,show (64*(i / 64)+t)%64=t by omega]at this
     ·have hp:18446744073709551616≤2 ^ t:=Nat.le_trans (by decide:18446744073709551616≤2 ^ 64) (Nat.pow_le_pow_right (by omega) (by omega));exact Nat.testBit_lt_two_pow (by omega)
    have hpw:(2:Nat) ^ (i%64)<18446744073709551616:=Nat.lt_of_lt_of_le (Nat.pow_lt_pow_right (by omega) (by omega:i%64<64)) (by decide:2 ^ 64≤18446744073709551616);obtain⟨o1,o2⟩:=Sx l (i:=i%64) (by omega);have hsum:wd a (i / 64) ||| 2 ^ (i%64)=2 ^ (i%64)+wd a (i / 64):=by
     have:=Nat.two_pow_add_eq_or_of_lt hsmall 1;rw[Nat.mul_one]at this;rw[this,Nat.or_comm]
    have e5:IntKind.u64.wrap ((1:Int)*2 ^ (min (i%64) IntKind.u64.bits))=((2 ^ (i%64):Nat):Int):=by
     rw[show min (i%64) IntKind.u64.bits=i%64 by show min (i%64) 64=i%64;omega];have:=G2 (1*2 ^ (i%64));unfold u64 at this;rw[this];have e3:((1:Int)*2 ^ (i%64))=((2 ^ (i%64):Nat):Int):=by simp
     rw[e3];generalize 2 ^ (i%64)=q at hpw⊢
     omega
    have e6:u64 (AZ a ((i / 64:Nat):Int)+IntKind.u64.wrap ((1:Int)*2 ^ (min (i%64) IntKind.u64.bits)))=bits .or .u64 (AZ a ((i / 64:Nat):Int)) (IntKind.u64.wrap ((1:Int)*2 ^ (min (i%64) IntKind.u64.bits))):=by
     rw[e,o1,e5,hsum,G2];generalize 2 ^ (i%64)=q at *
     omega
    obtain⟨p1,p2⟩:=Mb ha hi _ rfl;obtain⟨c,c1,c2,c3⟩:=TY L m (i+1) f _ (by omega) (by omega) p1 (fun x hx hxi=>by rw[p2 x hx,hz x hx (by omega),decide_eq_false (by omega)];rfl);rw[if_pos q,Uw i (by omega),XT i (by omega),if_pos ⟨by omega,by omega⟩,if_pos (by omega),if_pos ⟨by omega,by omega⟩,Int.toNat_natCast,e6];unfold GL;rw[A1 (by omega) (by omega)];refine⟨c,by exact_mod_cast c1,c2,fun x hx=>?_⟩;rw[c3 x hx,p2 x hx];by_cases r:x=i
    ·subst r;rw[decide_eq_true rfl,decide_eq_true (Nat.le_refl _),eg,q];simp
    ·rw[decide_eq_false r,Bool.or_false];congr 2;rw[decide_eq_decide];omega
   ·rw[if_neg q];unfold GL;rw[A1 (by omega) (by omega)];obtain⟨c,c1,c2,c3⟩:=TY L m (i+1) f a (by omega) (by omega) ha (fun x hx hxi=>hz x hx (by omega));refine⟨c,by exact_mod_cast c1,c2,fun x hx=>?_⟩;rw[c3 x hx];by_cases r:x=i
    ·subst r;rw[decide_eq_false (by omega),decide_eq_true (Nat.le_refl _),eg,Bool.eq_false_iff.2 q];rfl
    ·congr 2;rw[decide_eq_decide];omega
theorem O1 (L:List Bool):∃ c,Nq 20000 L=some c∧U c∧∀ x,x<256→tb c x=L.getD x false:=by
 obtain⟨c,c1,c2,c3⟩:=TY L (min 256 L.length) 0 20000 _ (by omega) (by omega) GI (fun x hx _=>HQ x hx);refine⟨c,c1,c2,fun x hx=>?_⟩;rw[c3 x hx,HQ x hx,decide_eq_true (Nat.zero_le _)];simp
def RT (o:Int) (s t:Bool):Bool:=if o=0 then s||t else if o=1 then s&&t else if o=2 then s&& !t else !s
theorem Ug (o:Int) {a b:Vector Int 4} (ha:U a) (hb:U b):∀ (m i fuel:Nat) (acc:List Bool),i+m=256→m<fuel→acc.length=i→(∀ x,x<i→acc.getD x false=RT o (tb a x) (tb b x))→
 ∃ L:List Bool,BW 20000 o a b fuel acc i=GQ 20000 L∧∀ x,x<256→L.getD x false=RT o (tb a x) (tb b x)
 | 0,i,f+1,acc,h,_,hl,hz=>by
   rw[BW.eq_2,if_neg (by omega)];exact⟨acc,rfl,fun x hx=>hz x (by omega)⟩
 | m+1,i,f+1,acc,h,hf,hl,hz=>by
   have hi:i<256:=by omega
   have next:∀ v,v=RT o (tb a i) (tb b i)→∃ L:List Bool,CU 20000 (BW 20000 o a b f) (i:Int) (acc++[v])=GQ 20000 L∧∀ x,x<256→L.getD x false=RT o (tb a x) (tb b x):=by
    intro v hv;unfold CU;rw[A1 (by omega) (by omega)]
    have:=Ug o ha hb m (i+1) f (acc++[v]) (by omega) (by omega) (by simp;omega) (fun x hx=>by
     by_cases q:x<i
     ·rw[List.getD,List.getElem?_append_left (by omega)];have:=hz x q;rw[List.getD]at this;exact this
     ·have e:x=i:=by omega
      subst e
      rw[List.getD,List.getElem?_append_right (by omega),hl,Nat.sub_self, ←hv];rfl)
    exact_mod_cast this
   have hlen:∀ v:Bool,(acc++[v]).length*1≤140737488355328:=by intro v;simp;omega
   rw[BW.eq_2,if_pos (by omega),Ld ha hi,Option.bind_some,Ld hb hi,Option.bind_some];by_cases o0:o=0
   ·rw[if_pos o0]
    cases q:tb a i with
    | true=>rw[if_pos rfl,if_pos (hlen _)];exact next _ (by unfold RT;rw[if_pos o0,q];rfl)
    | false=>rw[if_neg (by decide),if_pos (hlen _)];exact next _ (by unfold RT;rw[if_pos o0,q];rfl)
   ·rw[if_neg o0];by_cases o1:o=1
    ·rw[if_pos o1]
     cases q:tb a i with
     | true=>rw[if_pos rfl,if_pos (hlen _)];exact next _ (by unfold RT;rw[if_neg o0,if_pos o1,q];rfl)
     | false=>rw[if_neg (by decide),if_pos (hlen _)];exact next _ (by unfold RT;rw[if_neg o0,if_pos o1,q];rfl)
    ·rw[if_neg o1];by_cases o2:o=2
     ·rw[if_pos o2]
      cases q:tb a i with
      | true=>rw[if_pos rfl,if_pos (hlen _)];exact next _ (by unfold RT;rw[if_neg o0,if_neg o1,if_pos o2,q];rfl)
      | false=>rw[if_neg (by decide),if_pos (hlen _)];exact next _ (by unfold RT;rw[if_neg o0,if_neg o1,if_pos o2,q];rfl)
     ·rw[if_neg o2,if_pos (hlen _)];exact next _ (by unfold RT;rw[if_neg o0,if_neg o1,if_neg o2])
theorem QS (o:Int) {a b:Vector Int 4} (ha:U a) (hb:U b):∃ c,Pp 20000 o a b=some c∧U c∧∀ x,x<256→tb c x=RT o (tb a x) (tb b x):=by
 obtain⟨L,l1,l2⟩:=Ug o ha hb 256 0 20000 [] (by omega) (by omega) rfl (fun x hx=>by omega);obtain⟨c,c1,c2,c3⟩:=O1 L;refine⟨c,?_,c2,fun x hx=>by rw[c3 x hx,l2 x hx]⟩;have e:Pp 20000 o a b=BW 20000 o a b 20000 [] ((0:Nat):Int):=rfl;rw[e,l1,GQ,c1];rfl
theorem Zf (l:List Int) (hl:∀ b∈l,0≤b∧b≤255) (hz:l.length≤1000):∀ (m i fuel:Nat) (a:Vector Int 4),i+m=l.length→m<fuel→U a→
 ∃ c,DU 20000 l fuel a i=some c∧U c∧∀ x,x<256→tb c x=(tb a x||decide ((x:Int)∈l.drop i))
 | 0,i,f+1,a,h,_,ha=>by
   rw[DU.eq_2,if_neg (by omega),Ia];exact⟨a,rfl,ha,fun x hx=>by rw[List.drop_of_length_le (by omega)];simp⟩
 | m+1,i,f+1,a,h,hf,ha=>by
   have hi:i<l.length:=by omega
   have g:0≤(i:Int)∧(i:Int)<(l.length:Int):=⟨by omega,by omega⟩;have eb:AA l (i:Int)=l[i]:=by
    unfold AA;rw[show (i:Int).toNat=i by omega,List.getD,List.getElem?_eq_getElem hi];rfl
   have hb:=hl l[i] (List.getElem_mem hi);obtain⟨b,eb2⟩:∃ b:Nat,l[i]=b:=⟨l[i].toNat,by omega⟩;have hb2:b<256:=by omega
   obtain⟨p1,p2⟩:=Mb ha hb2 _ rfl;obtain⟨c,c1,c2,c3⟩:=Zf l hl hz m (i+1) f _ (by omega) (by omega) p1;rw[DU.eq_2,if_pos g.2,if_pos g,eb,eb2,We b hb2,MY,if_pos ⟨by omega,by omega⟩,if_pos (by omega),if_pos ⟨by omega,by omega⟩,Int.toNat_natCast,A1 (by omega) (by omega)];refine⟨c,by exact_mod_cast c1,c2,fun x hx=>?_⟩;rw[c3 x hx,p2 x hx,List.drop_eq_getElem_cons hi,eb2,Bool.or_assoc];congr 1;rw[←Bool.decide_or,decide_eq_decide,List.mem_cons];constructor
   ·rintro (h|h)
    ·exact .inl (by omega)
    ·exact .inr h
   ·rintro (h|h)
    ·exact .inl (by omega)
    ·exact .inr h
abbrev KK:Nat:=20000
def VZ:Vector Int 4:=Vector.replicate 4 (0:Int)
inductive Rx where
 | non
 | one (s:Vector Int 4)
 | cat (a b:Rx)
 | alt (a b:Rx)
 | un (k:Int) (a:Rx)
def Ac:Rx→List AE
 | .non=>[AE.mk 0 VZ]
 | .one s=>[AE.mk 1 s]
 | .cat a b=>Ac a++Ac b++[AE.mk 2 VZ]
 | .alt a b=>Ac a++Ac b++[AE.mk 3 VZ]
 | .un k a=>Ac a++[AE.mk k VZ]
def HC:Rx→Prop
 | .non=>True
 | .one s=>U s∧s≠VZ
 | .cat a b=>HC a∧HC b
 | .alt a b=>HC a∧HC b
 | .un k a=>4≤k∧k≤6∧HC a
theorem Bp:∀ t:Rx,0<(Ac t).length
 | .non=>by simp[Ac]
 | .one _=>by simp[Ac]
 | .cat a b=>by simp[Ac];omega
 | .alt a b=>by simp[Ac];omega
 | .un k a=>by simp[Ac]
def tk (k:Int):Int:=if k=0∨k=1 then 0 else if k=2∨k=3 then 2 else if k=4∨k=5∨k=6 then 1 else -1
theorem Kd (K:Nat) (k:Int):Ra K k=some (tk k):=by
 unfold Ra tk;by_cases a:k<0
 ·rw[if_pos a,Option.bind_some,if_pos rfl,if_neg (by omega),if_neg (by omega),if_neg (by omega)]
 by_cases b:(6:Int)<k
 ·rw[if_neg a,Option.bind_some,if_pos (by simpa using b),if_neg (by omega),if_neg (by omega),if_neg (by omega)]
 rw[if_neg a,Option.bind_some,if_neg (by simpa using b),if_pos ⟨by omega,by simp;omega⟩];have:k=0∨k=1∨k=2∨k=3∨k=4∨k=5∨k=6:=by omega
 rcases this with rfl|rfl|rfl|rfl|rfl|rfl|rfl<;>rfl
theorem bc (l:List AE) (i:Nat) (h:i<l.length):AA l (i:Int)=l[i]:=by simp[AA,List.getD,List.getElem?_eq_getElem h]
theorem GW (pre:List AE) (p:AE) (post:List AE):AA (pre++p::post) (pre.length:Int)=p:=by
 rw[bc _ _ (by simp)];simp
theorem aH (k:Int): -1≤tk k∧tk k≤2:=by unfold tk;repeat (first|omega|split)
theorem Pg (p0:List AE) (hz:p0.length≤1000000):∀ (t:Rx),HC t→∀ (pre post:List AE) (need:Int) (f:Nat),p0=pre++Ac t++post→1≤need→need≤1000000000 - (Ac t).length→
 BU KK p0 (f+(Ac t).length) need ((pre.length:Int)+(Ac t).length-1)=(if need=1 then some (pre.length:Int)else BU KK p0 f (need-1) ((pre.length:Int) -1)):=by
 have back:∀ (pre:List AE) (p:AE) (post:List AE) (need:Int) (f:Nat),p0=pre++p::post→1≤need→need≤1000000000→0≤tk p.f0→
  BU KK p0 (f+1) need (pre.length:Int)=(if need-1+tk p.f0=0 then some (pre.length:Int)else BU KK p0 f (need-1+tk p.f0) ((pre.length:Int) -1)):=by
  intro pre p post need f e h1 h2 h3;have hl:pre.length<p0.length:=by rw[e];simp
  have htk:=aH p.f0;have hg:AA p0 (pre.length:Int)=p:=by rw[e];exact GW pre p post
  have g0:(0:Int)≤(pre.length:Int):=by omega
  have g1:0≤(pre.length:Int)∧(pre.length:Int)<(p0.length:Int):=⟨by omega,by omega⟩;rw[BU.eq_2,if_pos g0,if_pos g1,hg,Kd,Option.bind_some,CP (x:=need-1) (by omega) (by omega),CP (x:=need-1+tk p.f0) (by omega) (by omega),CP (x:=(pre.length:Int) -1) (by omega) (by omega)]
 intro t
 have two:∀ (k:Int) (a b:Rx),tk k=2→(∀ (pre post:List AE) (need:Int) (f:Nat),p0=pre++Ac a++post→1≤need→need≤1000000000 - (Ac a).length→
  BU KK p0 (f+(Ac a).length) need ((pre.length:Int)+(Ac a).length-1)=(if need=1 then some (pre.length:Int)else BU KK p0 f (need-1) ((pre.length:Int) -1)))→
  (∀ (pre post:List AE) (need:Int) (f:Nat),p0=pre++Ac b++post→1≤need→need≤1000000000 - (Ac b).length→
  BU KK p0 (f+(Ac b).length) need ((pre.length:Int)+(Ac b).length-1)=(if need=1 then some (pre.length:Int)else BU KK p0 f (need-1) ((pre.length:Int) -1)))→
  ∀ (pre post:List AE) (need:Int) (f:Nat),p0=pre++(Ac a++Ac b++[AE.mk k VZ])++post→1≤need→need≤1000000000 - (Ac a++Ac b++[AE.mk k VZ]).length→
  BU KK p0 (f+(Ac a++Ac b++[AE.mk k VZ]).length) need ((pre.length:Int)+(Ac a++Ac b++[AE.mk k VZ]).length-1)=(if need=1 then some (pre.length:Int)else BU KK p0 f (need-1) ((pre.length:Int) -1)):=by
  intro k a b hk iha ihb pre post need f e h1 h2;have hla:=Bp a;have hlb:=Bp b;have hlen:(Ac a++Ac b++[AE.mk k VZ]).length=(Ac a).length+(Ac b).length+1:=by simp only[List.length_append,List.length_cons,List.length_nil]
  rw[hlen]at h2⊢
  have b1:=back (pre++Ac a++Ac b) (AE.mk k VZ) post need (f+(Ac a).length+(Ac b).length) (by rw[e];simp) h1 (by omega) (by rw[hk];omega);rw[hk,if_neg (by omega)]at b1;have b2:=ihb (pre++Ac a) (AE.mk k VZ::post) (need-1+2) (f+(Ac a).length) (by rw[e];simp) (by omega) (by omega);rw[if_neg (by omega)]at b2;have b3:=iha pre (Ac b++AE.mk k VZ::post) need f (by rw[e];simp) h1 (by omega);have i1:((pre++Ac a++Ac b).length:Int)=(pre.length:Int)+(((Ac a).length+(Ac b).length+1:Nat):Int) -1:=by simp only[List.length_append,List.length_cons,List.length_nil];omega
  have i2:((pre++Ac a++Ac b).length:Int) -1=((pre++Ac a).length:Int)+(Ac b).length-1:=by simp only[List.length_append,List.length_cons,List.length_nil];omega
  have i3:((pre++Ac a).length:Int) -1=(pre.length:Int)+(Ac a).length-1:=by simp only[List.length_append,List.length_cons,List.length_nil];omega
  have i4:need-1+2-1=need:=by omega
  rw[i2]at b1;rw[i1]at b1;rw[i3,i4]at b2;rw[show f+((Ac a).length+(Ac b).length+1)=f+(Ac a).length+(Ac b).length+1 by omega];exact b1.trans (b2.trans b3)
 induction t with
 | non=>
   intro _ pre post need f e h1 h2;have:=back pre (AE.mk 0 VZ) post need f (by rw[e];simp[Ac]) h1 (by simp[Ac]at h2;omega) (by decide);have e0:need-1+tk 0=need-1:=by rw[show tk 0=0 from rfl];omega
   rw[e0]at this;have i1:(pre.length:Int)+((Ac .non).length:Int) -1=(pre.length:Int):=by simp[Ac]
   rw[i1];by_cases q:need=1
   ·rw[if_pos q];rw[if_pos (by omega)]at this;exact this
   ·rw[if_neg q];rw[if_neg (by omega)]at this;exact this
 | one s=>
   intro _ pre post need f e h1 h2;have:=back pre (AE.mk 1 s) post need f (by rw[e];simp[Ac]) h1 (by simp[Ac]at h2;omega) (by show 0≤tk 1;decide);have e0:need-1+tk (AE.mk 1 s).f0=need-1:=by rw[show tk (AE.mk 1 s).f0=0 from rfl];omega
   rw[e0]at this;have i1:(pre.length:Int)+((Ac (.one s)).length:Int) -1=(pre.length:Int):=by simp[Ac]
   rw[i1];by_cases q:need=1
   ·rw[if_pos q];rw[if_pos (by omega)]at this;exact this
   ·rw[if_neg q];rw[if_neg (by omega)]at this;exact this
 | cat a b iha ihb=>
   intro hok pre post need f e h1 h2;exact two 2 a b rfl (iha hok.1) (ihb hok.2) pre post need f e h1 h2
 | alt a b iha ihb=>
   intro hok pre post need f e h1 h2;exact two 3 a b rfl (iha hok.1) (ihb hok.2) pre post need f e h1 h2
 | un k a iha=>
   intro hok pre post need f e h1 h2;have hk:tk k=1:=by
    have:k=4∨k=5∨k=6:=by have:=hok.1;have:=hok.2.1;omega
    rcases this with rfl|rfl|rfl<;>rfl
   have hla:=Bp a;have hlen:(Ac (.un k a)).length=(Ac a).length+1:=by simp[Ac]
   rw[hlen]at h2⊢
   have b1:=back (pre++Ac a) (AE.mk k VZ) post need (f+(Ac a).length) (by rw[e];simp[Ac]) h1 (by omega) (by show 0≤tk k;omega);rw[show tk (AE.mk k VZ).f0=1 from hk,if_neg (by omega),show need-1+1=need by omega]at b1;have b3:=iha hok.2.2 pre (AE.mk k VZ::post) need f (by rw[e];simp[Ac]) h1 (by omega);have i1:((pre++Ac a).length:Int)=(pre.length:Int)+(((Ac a).length+1:Nat):Int) -1:=by simp only[List.length_append,List.length_cons,List.length_nil];omega
   have i3:((pre++Ac a).length:Int) -1=(pre.length:Int)+(Ac a).length-1:=by simp only[List.length_append,List.length_cons,List.length_nil];omega
   rw[i3]at b1;rw[i1]at b1;rw[show f+((Ac a).length+1)=f+(Ac a).length+1 by omega];exact b1.trans b3
theorem Uf {p0:List AE} (hz:p0.length≤4000) {t:Rx} (ht:HC t) {pre post:List AE} (e:p0=pre++Ac t++post):
 Vd KK p0 ((pre.length:Int)+(Ac t).length-1)=some (pre.length:Int):=by
 have hl:(Ac t).length≤p0.length:=by rw[e];simp;omega
 have:=Pg p0 (by omega) t ht pre post 1 (KK - (Ac t).length) e (by omega) (by omega);rw[if_pos rfl,show KK - (Ac t).length+(Ac t).length=KK by show 20000-_+_=20000;omega]at this;exact this
def Ch:Rx→List (List AE)
 | .cat a b=>[Ac a,Ac b]
 | .alt a b=>[Ac a,Ac b]
 | .un _ a=>[Ac a]
 | _=>[]
def R1:Rx→Int
 | .non=>0
 | .one _=>1
 | .cat _ _=>2
 | .alt _ _=>3
 | .un k _=>k
theorem GR {t:Rx} (hz:(Ac t).length≤4000):AG (((Ac t).length:Int) -1)=(((Ac t).length-1:Nat):Int):=by
 have:=Bp t;rw[CP (by omega) (by omega)];omega
def LF:Rx→Vector Int 4
 | .one s=>s
 | _=>VZ
theorem E4:∀ (t:Rx),AA (Ac t) (((Ac t).length-1:Nat):Int)=AE.mk (R1 t) (LF t)
 | .non=>rfl
 | .one s=>rfl
 | .cat a b=>by
   have:(Ac (.cat a b)).length-1=(Ac a++Ac b).length:=by simp[Ac]
   rw[this];exact GW (Ac a++Ac b) _ []
 | .alt a b=>by
   have:(Ac (.alt a b)).length-1=(Ac a++Ac b).length:=by simp[Ac]
   rw[this];exact GW (Ac a++Ac b) _ []
 | .un k a=>by
   have:(Ac (.un k a)).length-1=(Ac a).length:=by simp[Ac]
   rw[this];exact GW (Ac a) _ []
theorem S5 (a b c:List AE):EB (a++b++c) (a.length:Int) ((a.length+b.length:Nat):Int)=b:=by
 unfold EB;rw[Int.toNat_natCast,Int.toNat_natCast,List.take_append_of_le_length (by simp),List.take_of_length_le (by simp),List.drop_left]
theorem E0 {t:Rx} (ht:HC t) (hz:(Ac t).length≤4000):TT KK (Ac t)=some (Ch t):=by
 have hp:=Bp t;have hx:=GR hz;unfold TT;rw[hx,if_pos ⟨by omega,by omega⟩,E4,Kd,Option.bind_some];have stop:∀ (f:Nat) (acc:List (List AE)) (x:Int),B3 KK (Ac t) (f+1) acc x 0=some acc:=by
  intro f acc x;rw[B3.eq_2,if_neg (by omega),Ix]
 have go:∀ (f:Nat) (acc:List (List AE)) (n:Int) (pre post:List AE) (a:Rx),HC a→Ac t=pre++Ac a++post→acc.length≤10→0<n→n≤2→
  B3 KK (Ac t) (f+1) acc ((pre.length+(Ac a).length:Nat):Int) n=B3 KK (Ac t) f ([Ac a]++acc) (pre.length:Int) (n-1):=by
  intro f acc n pre post a ha e hl h0 h2;have hlen:(Ac t).length=pre.length+(Ac a).length+post.length:=by rw[e];simp;omega
  have hla:=Bp a;have hs:=Uf (p0:=Ac t) hz ha e;have c2:EB (Ac t) (pre.length:Int) ((pre.length+(Ac a).length:Nat):Int)=Ac a:=by rw[e];exact S5 pre (Ac a) _
  rw[B3.eq_2,if_pos h0,CP (x:=((pre.length+(Ac a).length:Nat):Int) -1) (by omega) (by omega),show ((pre.length+(Ac a).length:Nat):Int) -1=(pre.length:Int)+(Ac a).length-1 by omega,hs,Option.bind_some,if_pos ⟨by omega,by omega,by omega⟩,c2,if_pos (by simp;omega),CP (x:=n-1) (by omega) (by omega)]
 have two:∀ (k:Int) (a b:Rx),HC a→HC b→Ac t=Ac a++Ac b++[AE.mk k VZ]→B3 KK (Ac t) KK [] (((Ac t).length-1:Nat):Int) 2=some [Ac a,Ac b]:=by
  intro k a b ha hb e;have hlen:(Ac t).length-1=(Ac a).length+(Ac b).length:=by rw[e];simp
  rw[hlen];have g1:=go 19999 [] 2 (Ac a) [AE.mk k VZ] b hb (by rw[e]) (by simp) (by omega) (by omega);have g2:=go 19998 [Ac b] (2-1) [] (Ac b++[AE.mk k VZ]) a ha (by rw[e];simp) (by simp) (by omega) (by omega);refine g1.trans ?_;rw[List.append_nil];have i0:((([]:List AE).length+(Ac a).length:Nat):Int)=((Ac a).length:Int):=by simp
  rw[i0]at g2;refine g2.trans ?_;exact stop 19997 _ _
 cases t with
 | non=>exact stop 19999 _ _
 | one s=>exact stop 19999 _ _
 | cat a b=>exact two 2 a b ht.1 ht.2 rfl
 | alt a b=>exact two 3 a b ht.1 ht.2 rfl
 | un k a=>
   have hk:tk k=1:=by
    have:k=4∨k=5∨k=6:=by have:=ht.1;have:=ht.2.1;omega
    rcases this with rfl|rfl|rfl<;>rfl
   show B3 KK (Ac (.un k a)) KK [] (((Ac (.un k a)).length-1:Nat):Int) (tk k)=_;have hlen:(Ac (.un k a)).length-1=([]:List AE).length+(Ac a).length:=by simp[Ac]
   rw[hk,hlen];refine(go 19999 [] 1 [] [AE.mk k VZ] a ht.2.2 (by simp[Ac]) (by simp) (by omega) (by omega)).trans ?_;exact stop 19998 _ _
end Go.Avl.T8
namespace Go.Avl.T8
open Go Go.RowKit Go.Proofs Go.Avl
theorem Ae {α:Type} [Inhabited α] (l:List α) (i:Nat) (h:i<l.length):AA l (i:Int)=l[i]:=by simp[AA,List.getD,List.getElem?_eq_getElem h]
end Go.Avl.T8
namespace Go.Avl.T8
open Go Go.RowKit Go.Proofs Go.Avl
set_option linter.all false
set_option maxRecDepth 10000
theorem Au {α:Type} (l:List α) (i:Int) (x:α):(AU l i x).length=l.length:=by simp[AU]
def NN (n:Ar):Nat:=n.f0.toNat
def Yp (n:Ar) (e:AR):Bool:=decide (0≤e.f0∧e.f0<n.f0∧0≤e.f1∧e.f1<n.f0)
def bd (n:Ar):Bool:=decide (0≤n.f2∧n.f2<n.f0∧0≤n.f3∧n.f3<n.f0)
def bB (n:Ar):Bool:=bd n&&n.f1.all (Yp n)
theorem Qc (n:Ar) (hl:n.f1.length≤8000):∀ (d i m:Nat),i+d=n.f1.length→d<m→Fh 20000 n m (i:Int)=some ((n.f1.drop i).all (Yp n))
 | 0,i,m+1,hi,_=>by
   rw[Fh.eq_2,if_neg (by omega),MX,List.drop_of_length_le (by omega)];simp
 | d+1,i,m+1,hi,hm=>by
   have hi':i<n.f1.length:=by omega
   have g:0≤(i:Int)∧(i:Int)<(n.f1.length:Int):=⟨by omega,by omega⟩;have ih:=Qc n hl d (i+1) m (by omega) (by omega);rw[Fh.eq_2,if_pos g.2,if_pos g,Ae _ i hi',List.drop_eq_getElem_cons hi',A1 (by omega) (by omega),show (i:Int)+1=((i+1:Nat):Int)by omega,ih];have key:(if n.f1[i].f0<(0:Int)then some true else if n.f0≤n.f1[i].f0 then some true else if n.f1[i].f1<(0:Int)then some true else some (decide (n.f0≤n.f1[i].f1)))=some (!Yp n n.f1[i]):=by
    unfold Yp;by_cases a1:n.f1[i].f0<(0:Int)
    ·rw[if_pos a1,decide_eq_false (by omega)];rfl
    ·rw[if_neg a1];by_cases a2:n.f0≤n.f1[i].f0
     ·rw[if_pos a2,decide_eq_false (by omega)];rfl
     ·rw[if_neg a2];by_cases a3:n.f1[i].f1<(0:Int)
      ·rw[if_pos a3,decide_eq_false (by omega)];rfl
      ·rw[if_neg a3];by_cases a4:n.f0≤n.f1[i].f1
       ·rw[decide_eq_true a4,decide_eq_false (by omega)];rfl
       ·rw[decide_eq_false a4,decide_eq_true (by omega)];rfl
   rw[key,Option.bind_some,List.all_cons];cases Yp n n.f1[i]
   ·rw[if_pos (by decide)];rfl
   ·rw[if_neg (by decide),Bool.true_and]
theorem M9 (n:Ar) (hl:n.f1.length≤8000):Yn 20000 n=some (bB n):=by
 unfold Yn bB bd;have key:(if n.f2<(0:Int)then some true else if n.f0≤n.f2 then some true else if n.f3<(0:Int)then some true else some (decide (n.f0≤n.f3)))=some (!decide (0≤n.f2∧n.f2<n.f0∧0≤n.f3∧n.f3<n.f0)):=by
  by_cases a1:n.f2<(0:Int)
  ·rw[if_pos a1,decide_eq_false (by omega)];rfl
  ·rw[if_neg a1];by_cases a2:n.f0≤n.f2
   ·rw[if_pos a2,decide_eq_false (by omega)];rfl
   ·rw[if_neg a2];by_cases a3:n.f3<(0:Int)
    ·rw[if_pos a3,decide_eq_false (by omega)];rfl
    ·rw[if_neg a3];by_cases a4:n.f0≤n.f3
     ·rw[decide_eq_true a4,decide_eq_false (by omega)];rfl
     ·rw[decide_eq_false a4,decide_eq_true (by omega)];rfl
 have:=Qc n hl n.f1.length 0 20000 (by omega) (by omega);rw[key,Option.bind_some];cases decide (0≤n.f2∧n.f2<n.f0∧0≤n.f3∧n.f3<n.f0)
 ·rfl
 ·simpa using this
structure Rt (n:Ar):Prop where
 first:0≤n.f2∧n.f2<n.f0
 last:0≤n.f3∧n.f3<n.f0
 ed:∀ e∈n.f1,0≤e.f0∧e.f0<n.f0∧0≤e.f1∧e.f1<n.f0
 n1:n.f0≤8000
 n2:n.f1.length≤8000
 u:∀ e∈n.f1,U e.f2
theorem Rt.nn {n:Ar} (h:Rt n):((NN n:Nat):Int)=n.f0:=by have:=h.first;unfold NN;omega
theorem Rt.rt {n:Ar} (h:Rt n):bB n=true:=by
 simp only[bB,bd,Bool.and_eq_true,decide_eq_true_eq,List.all_eq_true,Yp];exact⟨⟨h.first.1,h.first.2,h.last⟩,h.ed⟩
def HK (s:List Bool×Bool) (e:AR):List Bool×Bool:=if e.f3=true∧AA s.1 e.f0=true∧AA s.1 e.f1=false then(AU s.1 e.f1 true,true)else s
def Bz (l:List AR) (s:List Bool×Bool):List Bool×Bool:=l.foldl HK s
theorem Ie (s:List Bool×Bool) (e:AR):(HK s e).1.length=s.1.length:=by
 unfold HK;split
 ·exact Au _ _ _
 ·rfl
theorem C8:∀ (l:List AR) (s:List Bool×Bool),(Bz l s).1.length=s.1.length
 | [],s=>rfl
 | e::l,s=>by
   show (Bz l (HK s e)).1.length=_;rw[C8 l,Ie]
theorem WG {x:List Bool} {e:AR} (N:Nat) (hx:x.length=N) (he:0≤e.f0∧e.f0<(N:Int)∧0≤e.f1∧e.f1<(N:Int)):
 (if e.f3=true then if 0≤e.f0∧e.f0<(x.length:Int)then if(AA x e.f0)=true then if 0≤e.f1∧e.f1<(x.length:Int)then some (!(AA x e.f1))else none else some false else none else some false)=some (decide (e.f3=true∧AA x e.f0=true∧AA x e.f1=false)):=by
 have g0:0≤e.f0∧e.f0<(x.length:Int):=⟨he.1,by omega⟩;have g1:0≤e.f1∧e.f1<(x.length:Int):=⟨he.2.2.1,by omega⟩;rw[if_pos g0,if_pos g1];cases e.f3<;>cases AA x e.f0<;>cases AA x e.f1<;>simp
theorem KE {n:Ar} (h:Rt n) (rec9:List Bool→Bool→Option (List Bool)):∀ (d i m:Nat) (x:List Bool) (b:Bool),i+d=n.f1.length→d<m→x.length=NN n→
 EI 20000 rec9 n m x b (i:Int)=rec9 (Bz (n.f1.drop i) (x,b)).1 (Bz (n.f1.drop i) (x,b)).2
 | 0,i,m+1,x,b,hi,_,hx=>by
   rw[EI.eq_2,if_neg (by omega),List.drop_of_length_le (by omega)];rfl
 | d+1,i,m+1,x,b,hi,hm,hx=>by
   have hi':i<n.f1.length:=by omega
   have g:0≤(i:Int)∧(i:Int)<(n.f1.length:Int):=⟨by omega,by omega⟩;have he:=h.ed n.f1[i] (List.getElem_mem hi');have hN:=h.n2;have hf:=h.first;have hnn:=h.nn;rw[EI.eq_2,if_pos g.2,if_pos g,Ae _ i hi',List.drop_eq_getElem_cons hi',WG (NN n) hx ⟨he.1,by have:=he.2.1;omega,he.2.2.1,by have:=he.2.2.2;omega⟩,Option.bind_some];show _=rec9 (Bz (n.f1.drop (i+1)) (HK (x,b) n.f1[i])).1 (Bz (n.f1.drop (i+1)) (HK (x,b) n.f1[i])).2;unfold HK;by_cases q:n.f1[i].f3=true∧AA x n.f1[i].f0=true∧AA x n.f1[i].f1=false
   ·rw[if_pos (decide_eq_true q),if_pos q,if_pos ⟨he.2.2.1,by have:=he.2.2.2;omega⟩,H0,A1 (by omega) (by omega)];have ih:=KE h rec9 d (i+1) m (AU x n.f1[i].f1 true) true (by omega) (by omega) (by rw[Au,hx]);exact_mod_cast ih
   ·rw[if_neg (by simpa using q),if_neg q,H0,A1 (by omega) (by omega)];have ih:=KE h rec9 d (i+1) m x b (by omega) (by omega) hx;exact_mod_cast ih
def cnt (x:List Bool):Nat:=x.count true
theorem Jv (x:List Bool):cnt x≤x.length:=List.count_le_length
theorem Ly:∀ (x:List Bool) (i:Nat),i<x.length→x[i]? =some false→cnt (x.set i true)=cnt x+1
 | b::x,0,_,h=>by simp at h;subst h;simp[cnt]
 | b::x,i+1,hi,h=>by
   have:=Ly x i (by simpa using hi) (by simpa using h);simp only[cnt,List.set_cons_succ,List.count_cons]at this⊢
   omega
theorem VS (s:List Bool×Bool) (e:AR) (he:0≤e.f1∧e.f1<(s.1.length:Int)):HK s e=s∨((HK s e).2=true∧cnt (HK s e).1=cnt s.1+1):=by
 unfold HK;split
 ·rename_i q;refine .inr ⟨rfl,?_⟩;have hi:e.f1.toNat<s.1.length:=by omega
  refine Ly s.1 e.f1.toNat hi ?_;have:=q.2.2;unfold AA at this;rw[List.getD,List.getElem?_eq_getElem hi]at this;rw[List.getElem?_eq_getElem hi];simpa using this
 ·exact .inl rfl
theorem HU (N:Int):∀ (l:List AR) (s:List Bool×Bool),(∀ e∈l,0≤e.f1∧e.f1<N)→(s.1.length:Int)=N→Bz l s=s∨((Bz l s).2=true∧cnt s.1<cnt (Bz l s).1)
 | [],s,_,_=>.inl rfl
 | e::l,s,h,hs=>by
   have ih:=HU N l (HK s e) (fun e' h'=>h e' (by simp[h'])) (by rw[Ie];exact hs);show Bz l (HK s e)=s∨((Bz l (HK s e)).2=true∧cnt s.1<cnt (Bz l (HK s e)).1);rcases VS s e (by rw[hs];exact h e (by simp))with q|⟨q1,q2⟩
   ·rw[q]at ih⊢;exact ih
   ·rcases ih with r|⟨r1,r2⟩
    ·rw[r];exact .inr ⟨q1,by omega⟩
    ·exact .inr ⟨r1,by omega⟩
def cl (l:List AR):Nat→List Bool→List Bool
 | 0,x=>x
 | k+1,x=>if(Bz l (x,false)).2=true then cl l k (Bz l (x,false)).1 else(Bz l (x,false)).1
theorem Uv (l:List AR):∀ (k:Nat) (x:List Bool),(cl l k x).length=x.length
 | 0,_=>rfl
 | k+1,x=>by
   rw[cl];split
   ·rw[Uv l k,C8]
   ·rw[C8]
theorem RC {n:Ar} (h:Rt n):∀ (j:Nat) (x:List Bool),x.length=NN n→NN n-cnt x<j→cl n.f1 j x=cl n.f1 (j+1) x
 | 0,x,_,h=>by omega
 | j+1,x,hx,hj=>by
   rw[cl,cl];split
   ·rename_i q;have hp:=C8 n.f1 (x,false);have hle:=Jv (Bz n.f1 (x,false)).1;have hf:=h.first;have hnn:=h.nn;rcases HU n.f0 n.f1 (x,false) (fun e he=>⟨(h.ed e he).2.2.1,(h.ed e he).2.2.2⟩) (by show (x.length:Int)=_;omega)with r|⟨_,r⟩
    ·rw[r]at q;cases q
    ·have r':cnt x<cnt (Bz n.f1 (x,false)).1:=r;have hp':(Bz n.f1 (x,false)).1.length=x.length:=hp;exact RC h j _ (hp'.trans hx) (by rw[hp']at hle;omega)
   ·rfl
def CL (n:Ar) (x:List Bool):List Bool:=cl n.f1 (NN n+1) x
theorem Td (n:Ar) (x:List Bool):(CL n x).length=x.length:=Uv _ _ _
theorem Y1 {n:Ar} (h:Rt n) {x:List Bool} (hx:x.length=NN n):∀ {j:Nat},NN n-cnt x<j→cl n.f1 j x=CL n x:=by
 have up:∀ (d j:Nat),NN n-cnt x<j→cl n.f1 j x=cl n.f1 (j+d) x:=by
  intro d
  induction d with
  | zero=>intro j _;rfl
  | succ d ih=>intro j hj;rw[ih j hj,RC h (j+d) x hx (by omega)];rfl
 intro j hj;unfold CL;rcases Nat.le_total j (NN n+1)with q|q
 ·have:=up (NN n+1-j) j hj;rwa [show j+(NN n+1-j)=NN n+1 by omega]at this
 ·have:=up (j - (NN n+1)) (NN n+1) (by omega);rw[show NN n+1+(j - (NN n+1))=j by omega]at this;exact this.symm
theorem N7 {n:Ar} (h:Rt n):∀ (m:Nat) (x:List Bool),x.length=NN n→NN n-cnt x+1<m→D3 20000 n m x true=some (cl n.f1 m x)
 | m+1,x,hx,hm=>by
   have h2:=h.n2;rw[D3.eq_2,if_pos rfl];have e:=KE h (D3 20000 n m) n.f1.length 0 20000 x false (by omega) (by omega) hx;rw[Int.natCast_zero,List.drop_zero]at e;rw[e,cl];have hp:=C8 n.f1 (x,false);have hp':(Bz n.f1 (x,false)).1.length=x.length:=hp;by_cases q:(Bz n.f1 (x,false)).2=true
   ·rw[if_pos q,q];have hf:=h.first;have hnn:=h.nn;have hle:=Jv (Bz n.f1 (x,false)).1;rcases HU n.f0 n.f1 (x,false) (fun e he=>⟨(h.ed e he).2.2.1,(h.ed e he).2.2.2⟩) (by show (x.length:Int)=_;omega)with r|⟨_,r⟩
    ·rw[r]at q;cases q
    ·have r':cnt x<cnt (Bz n.f1 (x,false)).1:=r;exact N7 h m _ (hp'.trans hx) (by rw[hp']at hle;omega)
   ·rw[if_neg q]
    cases m with
    | zero=>omega
    | succ m=>rw[D3.eq_2,if_neg q,LU]
def Yo (n:Ar) (x:List Bool):List Bool:=DQ (List.replicate (NN n) false) x
theorem P5 (n:Ar) (x:List Bool):(Yo n x).length=NN n:=by unfold Yo;rw[Gb,List.length_replicate]
theorem NT {n:Ar} {x:List Bool} (hx:x.length=NN n):Yo n x=x:=by
 unfold Yo DQ;rw[List.length_replicate,List.take_of_length_le (by omega),List.drop_of_length_le (by simp;omega),List.append_nil]
theorem OX {n:Ar} (h:Rt n) (x:List Bool):Ys 20000 n x=some (CL n (Yo n x)):=by
 have h1:=h.n1;have hf:=h.first;have hnn:=h.nn;unfold Ys;rw[show n.f0.toNat=NN n from rfl];rw[if_pos ⟨by omega,by omega,by omega⟩];show D3 20000 n 20000 (Yo n x) true=_;rw[N7 h 20000 _ (P5 n x) (by omega),Y1 h (P5 n x) (by omega)]
def NM (x:List Bool) (b:Nat) (o:List Bool) (e:AR):List Bool:=if e.f3=false∧e.f0<(x.length:Int)∧AA x e.f0=true∧tb e.f2 b=true then AU o e.f1 true else o
def MV (n:Ar) (x:List Bool) (b:Nat):List Bool:=n.f1.foldl (NM x b) (List.replicate (NN n) false)
theorem Pu (x:List Bool) (b:Nat) (o:List Bool) (e:AR):(NM x b o e).length=o.length:=by
 unfold NM;split
 ·exact Au _ _ _
 ·rfl
theorem Q8 (x:List Bool) (b:Nat):∀ (l:List AR) (o:List Bool),(l.foldl (NM x b) o).length=o.length
 | [],_=>rfl
 | e::l,o=>by rw[List.foldl_cons,Q8 x b l,Pu]
theorem L8 (n:Ar) (x:List Bool) (b:Nat):(MV n x b).length=NN n:=by unfold MV;rw[Q8,List.length_replicate]
theorem Vf {x:List Bool} {e:AR} {t:Option Bool} {b:Nat} (he:0≤e.f0) (ht:t=some (tb e.f2 b)):
 (if(!(e.f3))=true then if e.f0<(x.length:Int)then if 0≤e.f0∧e.f0<(x.length:Int)then if(AA x e.f0)=true then t.bind fun t22=>some (t22)else some (false)else none else some (false)else some (false))=some (decide (e.f3=false∧e.f0<(x.length:Int)∧AA x e.f0=true∧tb e.f2 b=true)):=by
 subst ht;by_cases q:e.f0<(x.length:Int)
 ·cases e.f3<;>cases AA x e.f0<;>simp[q,he]
 ·cases e.f3<;>simp[q]
theorem Ph {n:Ar} (h:Rt n) (x:List Bool) {b:Nat} (hb:b<256):∀ (d i m:Nat) (o:List Bool),i+d=n.f1.length→d<m→o.length=NN n→
 ES 20000 n x (b:Int) m o (i:Int)=some ((n.f1.drop i).foldl (NM x b) o)
 | 0,i,m+1,o,hi,_,ho=>by
   rw[ES.eq_2,if_neg (by omega),List.drop_of_length_le (by omega),Mj];rfl
 | d+1,i,m+1,o,hi,hm,ho=>by
   have hi':i<n.f1.length:=by omega
   have g:0≤(i:Int)∧(i:Int)<(n.f1.length:Int):=⟨by omega,by omega⟩;have he:=h.ed n.f1[i] (List.getElem_mem hi');have hN:=h.n2;have hf:=h.first;have hnn:=h.nn;rw[ES.eq_2,if_pos g.2,if_pos g,Ae _ i hi',List.drop_eq_getElem_cons hi',Vf he.1 (Pj (h.u _ (List.getElem_mem hi')) hb),Option.bind_some,List.foldl_cons];unfold NM;by_cases q:n.f1[i].f3=false∧n.f1[i].f0<(x.length:Int)∧AA x n.f1[i].f0=true∧tb n.f1[i].f2 b=true
   ·rw[if_pos (decide_eq_true q),if_pos q,if_pos ⟨he.2.2.1,by have:=he.2.2.2;omega⟩,Hx,A1 (by omega) (by omega)];have ih:=Ph h x hb d (i+1) m (AU o n.f1[i].f1 true) (by omega) (by omega) (by rw[Au,ho]);unfold NM at ih;exact_mod_cast ih
   ·rw[if_neg (by simpa using q),if_neg q,Hx,A1 (by omega) (by omega)];have ih:=Ph h x hb d (i+1) m o (by omega) (by omega) ho;unfold NM at ih;exact_mod_cast ih
theorem VJ {n:Ar} (h:Rt n) (x:List Bool) {c:Int} (h0:0≤c) (h1:c≤255):aE 20000 n x c=some (MV n x c.toNat):=by
 obtain⟨b,rfl⟩:=Int.eq_ofNat_of_zero_le h0;have hn1:=h.n1;have hn2:=h.n2;have hf:=h.first;have hnn:=h.nn;unfold aE;rw[show n.f0.toNat=NN n from rfl];rw[if_pos ⟨by omega,by omega,by omega⟩];have:=Ph h x (b:=b) (by omega) n.f1.length 0 20000 (List.replicate (NN n) false) (by omega) (by omega) (by simp);rw[Int.natCast_zero,List.drop_zero]at this;exact this
inductive SL (P:List Nat→Prop):List Nat→Prop where
 | nil:SL P []
 | step (x y:List Nat):x≠[]→P x→SL P y→SL P (x++y)
theorem SL.inv {P:List Nat→Prop} {w:List Nat} (h:SL P w):w=[]∨∃ x y,x≠[]∧P x∧SL P y∧w=x++y:=by
 cases h with
 | nil=>exact .inl rfl
 | step x y a b c=>exact .inr ⟨x,y,a,b,c,rfl⟩
theorem SL.app {P:List Nat→Prop} {x y:List Nat} (h:SL P x) (hy:P y):SL P (x++y):=by
 induction h with
 | nil=>
   by_cases e:y=[]
   ·rw[e];exact .nil
   ·have:=SL.step y [] e hy .nil;rw[List.append_nil]at this;exact this
 | step u v a b c ih=>rw[List.append_assoc];exact .step u _ a b ih
def Lx:Rx→List Nat→Prop
 | .non,v=>v=[]
 | .one s,v=>∃ b,v=[b]∧tb s b=true
 | .cat a b,v=>∃ x y,v=x++y∧Lx a x∧Lx b y
 | .alt a b,v=>Lx a v∨Lx b v
 | .un k a,v=>if k=6 then v=[]∨Lx a v else if k=4 then SL (Lx a) v else ∃ x y,v=x++y∧Lx a x∧SL (Lx a) y
theorem CJ (l:List Bool) (i q:Int) (b:Bool) (h0:0≤i) (h1:i<(l.length:Int)) (hq:0≤q):AA (AU l i b) q=if q=i then b else AA l q:=by
 unfold AA AU;rw[List.getD,List.getD,List.getElem?_set];by_cases e:i.toNat=q.toNat
 ·rw[if_pos e,if_pos (by omega),if_pos (by omega)];rfl
 ·rw[if_neg e,if_neg (by omega)]
theorem GU (N:Nat) (q:Int):AA (List.replicate N false) q=false:=by
 unfold AA;rw[List.getD,List.getElem?_replicate];split<;>rfl
theorem JG (x:List Bool) (q:Int):AA x q=true↔x[q.toNat]? =some true:=by
 unfold AA;rw[List.getD]
 cases x[q.toNat]? with
 | none=>simp
 | some b=>cases b<;>simp
theorem Tz:∀ (x y:List Bool),x.length=y.length→(∀ j:Nat,x[j]? =some true→y[j]? =some true)→x=y∨cnt x<cnt y
 | [],[],_,_=>.inl rfl
 | a::x,b::y,hl,h=>by
   have ih:=Tz x y (by simpa using hl) (fun j hj=>by have:=h (j+1) (by simpa using hj);simpa using this);have h0:a=true→b=true:=fun e=>by have:=h 0 (by simp[e]);simpa using this
   simp only[cnt,List.count_cons]at ih⊢
   rcases ih with rfl|ih
   ·cases a<;>cases b<;>simp at h0⊢
   ·right;cases a<;>cases b<;>simp at h0⊢ <;>omega
def LE (x y:List Bool):Prop:=∀ q:Int,0≤q→AA x q=true→AA y q=true
theorem LE.cnt {x y:List Bool} (h:LE x y) (hl:x.length=y.length):x=y∨cnt x<cnt y:=
 Tz x y hl fun j hj=>by
  have:=h (j:Int) (by omega) ((JG _ _).2 (by simpa using hj));have:=(JG _ _).1 this;simpa using this
theorem LE.refl (x:List Bool):LE x x:=fun _ _ h=>h
theorem LE.trans {x y z:List Bool} (h:LE x y) (k:LE y z):LE x z:=fun q h0 h1=>k q h0 (h q h0 h1)
def W (s:ByteArray):List Nat:=s.data.toList.map UInt8.toNat
theorem HG (s:ByteArray):(W s).length=s.size:=by simp[W]
theorem XB (s:ByteArray) (i:Nat) (h:i<(W s).length):AF s (i:Int)=((W s)[i]:Int):=by
 have hs:i<s.size:=by rw[←HG];exact h
 unfold AF;rw[dif_pos (by rw[Int.toNat_natCast];exact hs)];simp[W,ByteArray.getElem_eq_getElem_data]
theorem bp (s:ByteArray) (i:Nat) (h:i<(W s).length):(W s)[i]<256:=by
 simp only[W,List.getElem_map];exact UInt8.toNat_lt _
def sl (w:List Nat) (i j:Nat):List Nat:=(w.drop i).take (j-i)
theorem QZ (w:List Nat) (i:Nat):sl w i i=[]:=by simp[sl]
theorem Xl (w:List Nat):sl w 0 w.length=w:=by simp[sl]
theorem LV {w:List Nat} {i j:Nat} (h:i≤j) (hj:j≤w.length):(sl w i j).length=j-i:=by simp[sl];omega
theorem Ue {w:List Nat} {i m j:Nat} (h1:i≤m) (h2:m≤j):sl w i m++sl w m j=sl w i j:=by
 unfold sl;rw[show j-i=(m-i)+(j-m)by omega,List.take_add,List.drop_drop,show i+(m-i)=m by omega]
theorem OR {w:List Nat} {i j:Nat} (h:i≤j) (hj:j≤w.length) {x y:List Nat} (e:sl w i j=x++y):∃ m,i≤m∧m≤j∧sl w i m=x∧sl w m j=y:=by
 have hl:=LV h hj;rw[e,List.length_append]at hl;refine⟨i+x.length,by omega,by omega,?_,?_⟩
 ·have:(sl w i j).take x.length=x:=by rw[e];exact List.take_left ..
  unfold sl at this⊢
  rw[List.take_take]at this;rw[show i+x.length-i=min x.length (j-i)by omega];exact this
 ·have:(sl w i j).drop x.length=y:=by rw[e];exact List.drop_left ..
  unfold sl at this⊢
  rw[List.drop_take,List.drop_drop]at this;rw[show j - (i+x.length)=j-i-x.length by omega];exact this
theorem SP {w:List Nat} {i:Nat} (h:i<w.length):sl w i (i+1)=[w[i]]:=by
 unfold sl;rw[show i+1-i=1 by omega,List.drop_eq_getElem_cons h];rfl
def EN (P:List Nat→Prop) (w:List Nat) (p q:List Bool):Prop:=q.length=w.length+1∧∀ j:Nat,j≤w.length→(AA q (j:Int)=true↔∃ i:Nat,i≤j∧AA p (i:Int)=true∧P (sl w i j))
theorem EN.congr {P Q:List Nat→Prop} {w:List Nat} {p q:List Bool} (h:EN P w p q) (e:∀ v,P v↔Q v):EN Q w p q:=
 ⟨h.1,fun j hj=>by
   rw[h.2 j hj];constructor
   ·rintro⟨i,a,b,c⟩;exact⟨i,a,b,(e _).1 c⟩
   ·rintro⟨i,a,b,c⟩;exact⟨i,a,b,(e _).2 c⟩⟩
theorem EN.non {w:List Nat} {p:List Bool} (hp:p.length=w.length+1):EN (fun v=>v=[]) w p p:=by
 refine⟨hp,fun j hj=>⟨fun h=>⟨j,Nat.le_refl _,h,QZ w j⟩,?_⟩⟩;rintro⟨i,a,b,c⟩;have:=LV a hj;rw[c]at this;have:i=j:=by simp at this;omega
 rw[←this];exact b
theorem EN.cat {P Q:List Nat→Prop} {w:List Nat} {p m q:List Bool} (h:EN P w p m) (k:EN Q w m q):EN (fun v=>∃ x y,v=x++y∧P x∧Q y) w p q:=by
 refine⟨k.1,fun j hj=>?_⟩;rw[k.2 j hj];constructor
 ·rintro⟨l,a,b,c⟩;obtain⟨i,a',b',c'⟩:=(h.2 l (by omega)).1 b;exact⟨i,by omega,b',_,_,(Ue a' a).symm,c',c⟩
 ·rintro⟨i,a,b,x,y,e,hx,hy⟩;obtain⟨l,l1,l2,rfl,rfl⟩:=OR a hj e;exact⟨l,l2,(h.2 l (by omega)).2 ⟨i,l1,b,hx⟩,hy⟩
def Ow (x y:List Bool):List Bool:=List.zipWith (fun a b=>a||b) x y
theorem MC {x y:List Bool} (h:x.length=y.length):(Ow x y).length=x.length:=by simp[Ow,h]
theorem It {x y:List Bool} (h:x.length=y.length) (i:Nat) (hi:i<x.length):AA (Ow x y) (i:Int)=(AA x (i:Int)||AA y (i:Int)):=by
 rw[Ae _ i (by rw[MC h];exact hi),Ae x i hi,Ae y i (by omega)];simp[Ow]
theorem EN.or {P Q:List Nat→Prop} {w:List Nat} {p x y:List Bool} (h:EN P w p x) (k:EN Q w p y):EN (fun v=>P v∨Q v) w p (Ow x y):=by
 have e:x.length=y.length:=by rw[h.1,k.1]
 refine⟨by rw[MC e,h.1],fun j hj=>?_⟩;rw[It e j (by rw[h.1];omega),Bool.or_eq_true,h.2 j hj,k.2 j hj];constructor
 ·rintro (⟨i,a,b,c⟩|⟨i,a,b,c⟩)
  ·exact⟨i,a,b,.inl c⟩
  ·exact⟨i,a,b,.inr c⟩
 ·rintro⟨i,a,b,c|c⟩
  ·exact .inl ⟨i,a,b,c⟩
  ·exact .inr ⟨i,a,b,c⟩
def SO (P:List Nat→Prop) (w:List Nat) (p x:List Bool):Prop:=∀ j:Nat,j≤w.length→AA x (j:Int)=true→∃ i:Nat,i≤j∧AA p (i:Int)=true∧SL P (sl w i j)
theorem SO.self (P:List Nat→Prop) (w:List Nat) (p:List Bool):SO P w p p:=fun j hj h=>⟨j,Nat.le_refl _,h,by rw[QZ];exact .nil⟩
theorem SO.or {P:List Nat→Prop} {w:List Nat} {p x q:List Bool} (h:SO P w p x) (hx:x.length=w.length+1) (k:EN P w x q):SO P w p (Ow x q):=by
 intro j hj hb;have e:x.length=q.length:=by rw[hx,k.1]
 rw[It e j (by omega),Bool.or_eq_true]at hb;rcases hb with hb|hb
 ·exact h j hj hb
 ·obtain⟨m,a,b,c⟩:=(k.2 j hj).1 hb;obtain⟨i,a',b',c'⟩:=h m (by omega) b;refine⟨i,by omega,b',?_⟩;rw[←Ue a' a];exact c'.app c
theorem SL.close {P:List Nat→Prop} {w:List Nat} {x:List Bool} (hc:∀ i j:Nat,i≤j→j≤w.length→AA x (i:Int)=true→P (sl w i j)→AA x (j:Int)=true):∀ v,SL P v→∀ i j:Nat,i≤j→j≤w.length→sl w i j=v→AA x (i:Int)=true→AA x (j:Int)=true:=by
 intro v h
 induction h with
 | nil=>
   intro i j a b e h;have:=LV a b;rw[e]at this;have:i=j:=by simp at this;omega
   rw[←this];exact h
 | step u v hu hp _ ih=>
   intro i j a b e h;obtain⟨m,m1,m2,rfl,rfl⟩:=OR a b e;exact ih m j m2 b rfl (hc i m m1 (by omega) h hp)
theorem EN.star {P:List Nat→Prop} {w:List Nat} {p x:List Bool} (hs:SO P w p x) (hx:x.length=w.length+1) (hl:LE p x) (hc:∀ i j:Nat,i≤j→j≤w.length→AA x (i:Int)=true→P (sl w i j)→AA x (j:Int)=true):EN (SL P) w p x:=by
 refine⟨hx,fun j hj=>⟨hs j hj,?_⟩⟩;rintro⟨i,a,b,c⟩;exact SL.close hc _ c i j a hj rfl (hl _ (by omega) b)
theorem Vg {x:List Bool} (h:x.length≤cnt x) (j:Nat) (hj:j<x.length):AA x (j:Int)=true:=by
 have h':x.count true=x.length:=Nat.le_antisymm (Jv x) h;rw[Ae x j hj];exact(List.count_eq_length.1 h' _ (List.getElem_mem hj)).symm
theorem W2 (x y:List Bool) (hl:x.length=y.length) (hz:x.length≤2000):∀ (m i fuel:Nat) (a:List Bool),i+m=x.length→m<fuel→a.length≤i→C3 KK x y fuel a (i:Int)=some (a++Ow (x.drop i) (y.drop i))
 | 0,i,f+1,a,hi,_,_=>by
   rw[C3.eq_2,if_neg (by omega),List.drop_of_length_le (by omega)];show some a=some (a++[]);rw[List.append_nil]
 | m+1,i,f+1,a,hi,hf,ha=>by
   have h1:i<x.length:=by omega
   have h2:i<y.length:=by omega
   have hlen:∀ b:Bool,(a++([b]:List Bool)).length*1≤140737488355328:=fun b=>by simp;omega
   rw[C3.eq_2,if_pos (by omega),if_pos ⟨by omega,by omega⟩,Ae x i h1,Ae y i h2,List.drop_eq_getElem_cons h1,List.drop_eq_getElem_cons h2];show _=some (a++((x[i]||y[i])::Ow (x.drop (i+1)) (y.drop (i+1))));have ih:=W2 x y hl hz m (i+1) f (a++[x[i]||y[i]]) (by omega) (by omega) (by simp;omega);rw[List.append_assoc]at ih;unfold Hb;rw[CP (by omega) (by omega)]
   cases hx:x[i]with
   | true=>
     rw[hx]at ih;rw[if_pos rfl,if_pos (hlen _)];exact_mod_cast ih
   | false=>
     rw[hx]at ih;rw[if_neg (by decide),if_pos ⟨by omega,by omega⟩,if_pos (hlen _)];exact_mod_cast ih
theorem Pb {x y:List Bool} (hl:x.length=y.length) (hz:x.length≤2000):O9 KK x y=some (Ow x y):=by
 have:=W2 x y hl hz x.length 0 KK [] (by omega) (by show _<20000;omega) (by simp);unfold O9;exact this
theorem Ny (rec7:List Bool→Int→Option (List Bool)) (x:List Bool) (x6:Int) (t:List Bool) (hl:x.length=t.length) (hz:x.length≤2000):∀ (m i fuel:Nat) (b:Bool),i+m=t.length→m<fuel→
 DV KK rec7 x x6 t fuel b (i:Int)=HF KK rec7 x6 t (b&&decide (t.drop i=x.drop i))
 | 0,i,f+1,b,hi,_=>by
   rw[DV.eq_2,if_neg (by omega),List.drop_of_length_le (by omega),List.drop_of_length_le (by omega)];simp
 | m+1,i,f+1,b,hi,hf=>by
   have h1:i<t.length:=by omega
   have h2:i<x.length:=by omega
   rw[DV.eq_2,if_pos (by omega),Ae t i h1,Ae x i h2,List.drop_eq_getElem_cons h1,List.drop_eq_getElem_cons h2,CP (by omega) (by omega)];have ih:=fun b=>Ny rec7 x x6 t hl hz m (i+1) f b (by omega) (by omega);have e:decide (t[i]::t.drop (i+1)=x[i]::x.drop (i+1))=((t[i]==x[i])&&decide (t.drop (i+1)=x.drop (i+1))):=by
    rw[Bool.eq_iff_iff,decide_eq_true_iff,Bool.and_eq_true,beq_iff_eq,decide_eq_true_iff,List.cons.injEq]
   rw[e]
   cases b with
   | true=>
     rw[if_pos rfl,if_pos ⟨by omega,by omega⟩,if_pos ⟨by omega,by omega⟩,Option.bind_some,Bool.true_and];exact_mod_cast ih (t[i]==x[i])
   | false=>
     rw[if_neg (by decide),Option.bind_some,Bool.false_and];have:=ih false;rw[Bool.false_and]at this;exact_mod_cast this
theorem Oc (self:List AE→ByteArray→List Bool→Option (List Bool)) (p0:List AE) (s:ByteArray) (hs:s.size≤1000) (P:List Nat→Prop) (H:∀ p:List Bool,p.length=s.size+1→∃ q,self p0 s p=some q∧EN P (W s) p q) (p:List Bool):∀ (d i fuel:Nat) (x:List Bool),i+d=s.size+1→d<fuel→x.length=s.size+1→i≤cnt x→LE p x→SO P (W s) p x→
 ∃ q,Cq KK self p0 s fuel x (i:Int)=some q∧EN (SL P) (W s) p q
 | 0,i,f+1,x,hi,_,hx,hc,hl,hso=>by
   have hw:=HG s;rw[Cq.eq_2,if_neg (by omega)];exact⟨x,rfl,EN.star hso (by rw[hw,hx]) hl fun a b _ hb _ _=>Vg (by omega) b (by omega)⟩
 | d+1,i,f+1,x,hi,hf,hx,hc,hl,hso=>by
   have hw:=HG s;obtain⟨q,q1,q2⟩:=H x hx;have e:x.length=q.length:=by rw[hx,q2.1,hw]
   have hol:=MC e;have hle:LE x (Ow x q):=fun z hz h=>by
    have hz':z.toNat<x.length:=by
     rw[JG]at h;exact(List.getElem?_eq_some_iff.1 h).1
    have:=It e z.toNat hz';rw[show ((z.toNat:Nat):Int)=z by omega]at this;rw[this,h];rfl
   rw[Cq.eq_2,if_pos (by omega),q1,Option.bind_some,Pb e (by omega),Option.bind_some];have l3:=Ny (Cq KK self p0 s f) x (i:Int) (Ow x q) (by rw[hol]) (by omega) (Ow x q).length 0 KK true (by omega) (by show _<20000;omega);rw[Int.natCast_zero]at l3;rw[l3,List.drop_zero,List.drop_zero,Bool.true_and];unfold HF Im;by_cases a:Ow x q=x
   ·rw[if_pos (decide_eq_true a),a];refine⟨x,rfl,EN.star hso (by rw[hw,hx]) hl fun u v huv hv hu hp=>?_⟩;have:AA q (v:Int)=true:=(q2.2 v hv).2 ⟨u,huv,hu,hp⟩;have g:=It e v (by omega);rw[a,this,Bool.or_true]at g;exact g
   ·rw[if_neg (by simpa using a),CP (by omega) (by omega)];have hcn:cnt x<cnt (Ow x q):=by
     rcases hle.cnt (by rw[hol])with k|k
     ·exact absurd k.symm a
     ·exact k
    have ih:=Oc self p0 s hs P H p d (i+1) f (Ow x q) (by omega) (by omega) (by rw[hol,hx]) (by omega) (hl.trans hle) (hso.or (by rw[hw,hx]) q2);exact_mod_cast ih
theorem Sq {st:Vector Int 4} (hu:U st) (s:ByteArray) (hs:s.size≤1000) (p:List Bool) (hp:p.length=s.size+1):∀ (m i fuel:Nat) (x:List Bool),i+m=s.size→m<fuel→x.length=s.size+1→
 (∀ j:Nat,j≤s.size→(AA x (j:Int)=true↔∃ u:Nat,j=u+1∧u<i∧AA p (u:Int)=true∧∃ h:u<(W s).length,tb st (W s)[u]=true))→
 ∃ q,Cz KK (Ac (.one st)) s p fuel x (i:Int)=some q∧EN (Lx (.one st)) (W s) p q
 | 0,i,f+1,x,hi,_,hx,hq=>by
   have hw:=HG s;rw[Cz.eq_2,if_neg (by omega)];refine⟨x,rfl,by rw[hx,hw],fun j hj=>?_⟩;rw[hq j (by omega)];constructor
   ·rintro⟨u,rfl,u1,u2,u3,u4⟩;exact⟨u,by omega,u2,(W s)[u],SP u3,u4⟩
   ·rintro⟨u,u1,u2,b,e,hb⟩;have hl:=LV u1 hj;rw[e]at hl;simp at hl;have:j=u+1:=by omega
    subst this;have h3:u<(W s).length:=by omega
    rw[SP h3]at e;exact⟨u,rfl,by omega,u2,h3,by rw[(List.cons.inj e).1];exact hb⟩
 | m+1,i,f+1,x,hi,hf,hx,hq=>by
   have hw:=HG s;have h3:i<(W s).length:=by omega
   have hb:=bp s i h3;have g:0≤(i:Int)∧(i:Int)<(s.size:Int):=⟨by omega,by omega⟩;have e1:AG (((Ac (.one st)).length:Int) -1)=0:=by
    rw[show ((Ac (.one st)).length:Int)=1 from rfl];rfl
   have g2:0≤(0:Int)∧(0:Int)<((Ac (.one st)).length:Int):=⟨by decide,by show (0:Int)<1;decide⟩;have key:∀ b:Bool,(b=true↔AA p (i:Int)=true∧tb st (W s)[i]=true)→∀ j:Nat,j≤s.size→(AA (AU x ((i:Int)+1) b) (j:Int)=true↔∃ u:Nat,j=u+1∧u<i+1∧AA p (u:Int)=true∧∃ h:u<(W s).length,tb st (W s)[u]=true):=by
    intro b hbi j hj;rw[CJ x _ _ b (by omega) (by omega) (by omega)];by_cases c:(j:Int)=(i:Int)+1
    ·rw[if_pos c,hbi];have:j=i+1:=by omega
     subst this;constructor
     ·rintro⟨a1,a2⟩;exact⟨i,rfl,by omega,a1,h3,a2⟩
     ·rintro⟨u,hu1,_,a1,_,a2⟩;obtain rfl:i=u:=by omega
      exact⟨a1,a2⟩
    ·rw[if_neg c,hq j hj];constructor
     ·rintro⟨u,hu1,hu2,r⟩;exact⟨u,hu1,by omega,r⟩
     ·rintro⟨u,hu1,hu2,r⟩;exact⟨u,hu1,by omega,r⟩
   have go:=fun b (hbi:b=true↔AA p (i:Int)=true∧tb st (W s)[i]=true)=>Sq hu s hs p hp m (i+1) f (AU x ((i:Int)+1) b) (by omega) (by omega) (by rw[Au,hx]) (key b hbi);rw[Cz.eq_2,if_pos g.2,if_pos ⟨by omega,by omega⟩,e1,if_pos g2,if_pos g,show AA (Ac (.one st)) (0:Int)=AE.mk 1 st from rfl,XB s i h3,CP (x:=(((W s)[i]:Nat):Int)) (by omega) (by omega),CP (x:=(i:Int)+1) (by omega) (by omega)];unfold Hg;rw[CP (x:=(i:Int)+1) (by omega) (by omega)];have g4:0≤(i:Int)+1∧(i:Int)+1<(x.length:Int):=⟨by omega,by omega⟩;by_cases c:AA p (i:Int)=true
   ·rw[if_pos c,Ld hu hb,Option.bind_some,if_pos g4];have:=go (tb st (W s)[i]) ⟨fun h=>⟨c,h⟩,fun h=>h.2⟩;exact_mod_cast this
   ·rw[if_neg c,if_pos g4];have:=go false ⟨fun h=>(Bool.noConfusion h),fun h=>absurd h.1 c⟩;exact_mod_cast this
theorem YX (s:ByteArray) (hs:s.size≤1000):∀ (t:Rx),HC t→(Ac t).length≤2000→∀ (j:Nat) (p:List Bool),2*(Ac t).length≤j→p.length=s.size+1→∃ q,Bh KK j (Ac t) s p=some q∧EN (Lx t) (W s) p q:=by
 have hw:=HG s;intro t
 induction t with
 | non=>
   intro ht hz j p hj hp;obtain⟨j,rfl⟩:∃ i,j=i+1:=⟨j-1,by have:=Bp .non;omega⟩;have e0:(AE.mk (R1 .non) (LF .non)).f0=0:=rfl;rw[Bh.eq_2,if_pos ⟨by omega,by omega,by omega⟩,E0 ht (by omega),Option.bind_some,GR (by omega),if_pos ⟨by omega,by have:=Bp .non;omega⟩,E4,e0,if_pos rfl];exact⟨p,rfl,EN.non (by rw[hp,hw])⟩
 | one st=>
   intro ht hz j p hj hp;have hps:=Bp (.one st);obtain⟨j,rfl⟩:∃ i,j=i+1:=⟨j-1,by omega⟩;have e0:(AE.mk (R1 (.one st)) (LF (.one st))).f0=1:=rfl;rw[Bh.eq_2,if_pos ⟨by omega,by omega,by omega⟩,E0 ht (by omega),Option.bind_some,GR (by omega),if_pos ⟨by omega,by omega⟩,E4,e0,if_neg (by decide),if_pos rfl]
   have:=Sq ht.1 s hs p hp s.size 0 KK (List.replicate (p.length:Int).toNat false) (by omega) (by show _<20000;omega) (by simp[hp]) (fun j _=>by
    rw[GU];constructor
    ·intro h;cases h
    ·rintro⟨u,_,h,_⟩;omega)
   exact_mod_cast this
 | cat a b iha ihb=>
   intro ht hz j p hj hp;have hlen:(Ac (.cat a b)).length=(Ac a).length+(Ac b).length+1:=by simp only[Ac,List.length_append,List.length_cons,List.length_nil]
   obtain⟨j,rfl⟩:∃ i,j=i+1:=⟨j-1,by omega⟩;have e0:(AE.mk (R1 (.cat a b)) (LF (.cat a b))).f0=2:=rfl;have g:((Ch (.cat a b)).length:Int)=2:=rfl;have g0:AA (Ch (.cat a b)) (0:Int)=Ac a:=rfl;have g1:AA (Ch (.cat a b)) (1:Int)=Ac b:=rfl;obtain⟨q,q1,q2⟩:=iha ht.1 (by omega) j p (by omega) hp;obtain⟨r,r1,r2⟩:=ihb ht.2 (by omega) j q (by omega) (by rw[q2.1,hw]);rw[Bh.eq_2,if_pos ⟨by omega,by omega,by omega⟩,E0 ht (by omega),Option.bind_some,GR (by omega),if_pos ⟨by omega,by omega⟩,E4,e0,g,if_neg (by decide),if_neg (by decide),if_pos rfl,if_pos (by decide),if_pos (by decide),g0,q1,Option.bind_some,g1,r1,Option.bind_some];exact⟨r,rfl,q2.cat r2⟩
 | alt a b iha ihb=>
   intro ht hz j p hj hp;have hlen:(Ac (.alt a b)).length=(Ac a).length+(Ac b).length+1:=by simp only[Ac,List.length_append,List.length_cons,List.length_nil]
   obtain⟨j,rfl⟩:∃ i,j=i+1:=⟨j-1,by omega⟩;have e0:(AE.mk (R1 (.alt a b)) (LF (.alt a b))).f0=3:=rfl;have g:((Ch (.alt a b)).length:Int)=2:=rfl;have g0:AA (Ch (.alt a b)) (0:Int)=Ac a:=rfl;have g1:AA (Ch (.alt a b)) (1:Int)=Ac b:=rfl;obtain⟨q,q1,q2⟩:=iha ht.1 (by omega) j p (by omega) hp;obtain⟨r,r1,r2⟩:=ihb ht.2 (by omega) j p (by omega) hp;have hq:=q2.1;have hr:=r2.1;rw[Bh.eq_2,if_pos ⟨by omega,by omega,by omega⟩,E0 ht (by omega),Option.bind_some,GR (by omega),if_pos ⟨by omega,by omega⟩,E4,e0,g,if_neg (by decide),if_neg (by decide),if_neg (by decide),if_pos rfl,if_pos (by decide),g0,q1,Option.bind_some,if_pos (by decide),g1,r1,Option.bind_some,Pb (by omega) (by omega),Option.bind_some];exact⟨_,rfl,q2.or r2⟩
 | un k a iha=>
   intro ht hz j p hj hp;have hlen:(Ac (.un k a)).length=(Ac a).length+1:=by simp[Ac]
   have hpa:=Bp a;have k1:=ht.1;have k2:=ht.2.1;obtain⟨j,rfl⟩:∃ i,j=i+1+1:=⟨j-2,by omega⟩;have e0:(AE.mk (R1 (.un k a)) (LF (.un k a))).f0=k:=rfl;have g:((Ch (.un k a)).length:Int)=1:=rfl;have g0:AA (Ch (.un k a)) (0:Int)=Ac a:=rfl;have st:∀ x:List Bool,x.length=s.size+1→∃ q,F7 KK (j+1) (Ac a) s x=some q∧EN (SL (Lx a)) (W s) x q:=by
    intro x hx;have:=Oc (Bh KK j) (Ac a) s hs (Lx a) (fun p hp=>iha ht.2.2 (by omega) j p (by omega) hp) x (s.size+1) 0 KK x (by omega) (by show _<20000;omega) hx (by omega) (LE.refl x) (SO.self _ _ _);rw[Int.natCast_zero]at this;rw[F7.eq_2];exact this
   rw[Bh.eq_2,if_pos ⟨by omega,by omega,by omega⟩,E0 ht (by omega),Option.bind_some];unfold Ii;rw[GR (by omega),if_pos ⟨by omega,by omega⟩,E4,e0,g,g0,if_neg (by omega),if_neg (by omega),if_neg (by omega),if_neg (by omega)];by_cases k6:k=6
   ·obtain⟨q,q1,q2⟩:=iha ht.2.2 (by omega) (j+1) p (by omega) hp;have hq:=q2.1;rw[if_pos k6,if_pos (by decide),q1,Option.bind_some,Pb (by omega) (by omega),Option.bind_some];refine⟨_,rfl,((EN.non (by rw[hp,hw])).or q2).congr fun v=>?_⟩
    conv=>rhs;unfold Lx
    rw[if_pos k6]
   ·rw[if_neg k6];by_cases k4:k=4
    ·obtain⟨q,q1,q2⟩:=st p hp;rw[if_pos ⟨by omega,by omega⟩,if_pos k4,if_pos (by decide),q1,Option.bind_some];refine⟨_,rfl,q2.congr fun v=>?_⟩
     conv=>rhs;unfold Lx
     rw[if_neg k6,if_pos k4]
    ·obtain⟨q,q1,q2⟩:=iha ht.2.2 (by omega) (j+1) p (by omega) hp;obtain⟨r,r1,r2⟩:=st q (by rw[q2.1,hw]);rw[if_pos ⟨by omega,by omega⟩,if_neg k4,if_pos (by decide),if_pos (by decide),q1,Option.bind_some,r1,Option.bind_some];refine⟨_,rfl,(q2.cat r2).congr fun v=>?_⟩
     conv=>rhs;unfold Lx
     rw[if_neg k6,if_neg k4]
theorem NK {t:Rx} (ht:HC t) (hz:(Ac t).length≤400) (s:ByteArray) (hs:s.size≤1000):∃ b,WS KK (Ac t) s=some b∧(b=true↔Lx t (W s)):=by
 have hw:=HG s;have e1:AG ((s.size:Int)+1)=((s.size+1:Nat):Int):=by rw[CP (by omega) (by omega)];omega
 obtain⟨q,q1,q2⟩:=YX s hs t ht (by omega) KK (AU (List.replicate (s.size+1) false) (0:Int) true) (by show _≤20000;omega) (by rw[Au,List.length_replicate]);have hq:=q2.1;refine⟨AA q (s.size:Int),?_,?_⟩
 ·unfold WS;rw[e1,Int.toNat_natCast,if_pos ⟨by omega,by omega,by omega⟩,if_pos ⟨by omega,by rw[List.length_replicate];omega⟩];unfold Xd;rw[q1,Option.bind_some,if_pos ⟨by omega,by omega⟩]
 ·rw[q2.2 s.size (by omega)];have one:∀ i:Nat,AA (AU (List.replicate (s.size+1) false) (0:Int) true) (i:Int)=true↔i=0:=by
   intro i;rw[CJ _ _ _ _ (by omega) (by rw[List.length_replicate];omega) (by omega),GU];by_cases c:(i:Int)=0
   ·rw[if_pos c];simp;omega
   ·rw[if_neg c];simp;omega
  have hall:sl (W s) 0 s.size=W s:=by rw[←hw];exact Xl _
  constructor
  ·rintro⟨i,a,b,c⟩;rw[one]at b;subst b;rw[hall]at c;exact c
  ·intro h;exact⟨0,by omega,(one 0).2 rfl,by rw[hall];exact h⟩
theorem NA {α β:Type} {o:Option α} {f:α→Option β} {Q:β→Prop} (h:∃ b,o=some b) (k:∀ b,o=some b→∃ y,f b=some y∧Q y):∃ y,o.bind f=some y∧Q y:=by
 obtain⟨b,hb⟩:=h;obtain⟨y,y1,y2⟩:=k b hb;exact⟨y,by rw[hb,Option.bind_some];exact y1,y2⟩
theorem KW (x:Int):∃ v,Mm 20000 x=some v:=by
 unfold Mm;split
 ·rw[Option.bind_some];split
  ·exact⟨_,rfl⟩
  ·split
   ·rw[Option.bind_some];split<;>exact⟨_,rfl⟩
   ·exact⟨_,rfl⟩
 ·rw[Option.bind_some,if_neg (by decide)];split
  ·rw[Option.bind_some];split<;>exact⟨_,rfl⟩
  ·exact⟨_,rfl⟩
def EQ (s:ByteArray) (y:Int×Int×Bool):Prop:=∃ c n:Nat,y=((c:Int),(n:Int),y.2.2)∧c<256∧n≤s.size∧(y.2.2=true→1≤n)
theorem EQ.mk {s:ByteArray} {c:Int} {n:Nat} {b:Bool} (h:0≤c∧c≤255) (hn:n≤s.size) (hb:b=true→1≤n):EQ s (c,(n:Int),b):=by
 obtain⟨m,rfl⟩:=Int.eq_ofNat_of_zero_le h.1;exact⟨m,n,rfl,by omega,hn,hb⟩
theorem cw (x:Int):0≤w8 x∧w8 x≤255:=by rw[So];omega
theorem Rh (s:ByteArray):∃ y,OQ 20000 s=some y∧EQ s y:=by
 have c1:∃ y,HX 20000=some y∧EQ s y:=⟨_,rfl,EQ.mk (n:=0) (by omega) (Nat.zero_le _) (fun h=>by cases h)⟩;unfold OQ;by_cases e:s=ByteArray.mk #[]
 ·rw[if_pos e];exact⟨_,rfl,EQ.mk (n:=0) (by omega) (Nat.zero_le _) (fun h=>by cases h)⟩
 ·rw[if_neg e];have hs:0<s.size:=by
   refine Classical.byContradiction fun q=>e ?_;have h0:s.size=0:=by omega
   have h1:s.data.size=0:=h0
   cases s with
   | mk d=>congr 1;exact Array.eq_empty_of_size_eq_zero h1
  have u0:=Az s 0;have u1:=Az s 1;rw[if_pos ⟨by omega,by omega⟩];by_cases b:AF s 0≠92
  ·rw[if_pos b,if_pos ⟨by omega,by omega⟩];exact⟨_,rfl,EQ.mk (n:=1) u0 (by omega) (fun _=>Nat.le_refl _)⟩
  ·rw[if_neg b];by_cases c:(s.size:Int)<2
   ·rw[if_pos c];exact⟨_,rfl,EQ.mk (n:=0) (by omega) (Nat.zero_le _) (fun h=>by cases h)⟩
   ·rw[if_neg c,if_pos ⟨by omega,by omega⟩];split
    ·exact⟨_,rfl,EQ.mk (n:=2) (by omega) (by omega) (fun _=>by omega)⟩
    ·split
     ·exact⟨_,rfl,EQ.mk (n:=2) (by omega) (by omega) (fun _=>by omega)⟩
     ·split
      ·exact⟨_,rfl,EQ.mk (n:=2) (by omega) (by omega) (fun _=>by omega)⟩
      ·split
       ·unfold Ge;obtain⟨v2,e2⟩:=KW (AF s 2);obtain⟨v3,e3⟩:=KW (AF s 3);by_cases q:(4:Int)≤(s.size:Int)
        ·have g2:(0:Int)≤2∧(2:Int)<(s.size:Int):=⟨by omega,by omega⟩;have g3:(0:Int)≤3∧(3:Int)<(s.size:Int):=⟨by omega,by omega⟩;rw[if_pos q];refine NA ?_ fun b hb=>?_
         ·rw[if_pos g2,e2,Option.bind_some];by_cases v:0≤v2
          ·rw[if_pos v,if_pos g3,e3,Option.bind_some];exact⟨_,rfl⟩
          ·rw[if_neg v];exact⟨_,rfl⟩
         ·cases b with
          | true=>
            rw[if_pos rfl,if_pos g2,e2,Option.bind_some,if_pos g3,e3,Option.bind_some];exact⟨_,rfl,EQ.mk (n:=4) (cw _) (by omega) (fun _=>by omega)⟩
          | false=>exact c1
        ·rw[if_neg q,Option.bind_some,if_neg (by decide)];exact c1
       ·split
        ·exact c1
        ·unfold Ct;refine NA (by repeat' (first|exact⟨_,rfl⟩|split)) fun b hb=>?_
         cases b with
         | true=>exact⟨_,rfl,EQ.mk (n:=0) (by omega) (Nat.zero_le _) (fun h=>by cases h)⟩
         | false=>exact⟨_,rfl,EQ.mk (n:=2) u1 (by omega) (fun _=>by omega)⟩
theorem Sa (x:Int):U0 20000 x=some (if x=0∨x=1 then 0 else if x=4∨x=5∨x=6 then 1 else if x=2∨x=3 then 2 else -1):=by
 unfold U0 I9 Hz JM;by_cases h0:x=0
 ·subst h0;rfl
 by_cases h1:x=1
 ·subst h1;rfl
 by_cases h2:x=2
 ·subst h2;rfl
 by_cases h3:x=3
 ·subst h3;rfl
 by_cases h4:x=4
 ·subst h4;rfl
 by_cases h5:x=5
 ·subst h5;rfl
 by_cases h6:x=6
 ·subst h6;rfl
 simp[h0,h1,h2,h3,h4,h5,h6]
def bC (k:Int):AE:=AE.mk k (Vector.replicate 4 0)
theorem Wr {k:Int} (hk:k=2∨k=3) {a b:List AE} (ha:a.length≤100000) (hb:b.length≤100000):R7 20000 k [a,b]=some (a++b++[bC k]):=by
 have hl:([a,b]:List (List AE)).length=2:=rfl;have g0:AA [a,b] (0:Int)=a:=rfl;have g1:AA [a,b] (1:Int)=b:=rfl;have w1:AG ((0:Int)+1)=1:=CP (by omega) (by omega);have w2:AG ((1:Int)+1)=2:=CP (by omega) (by omega);have ht:U0 20000 k=some 2:=by rcases hk with rfl|rfl<;>rfl
 unfold R7;rw[ht,Option.bind_some,hl,if_neg (by decide),Option.bind_some,decide_eq_false (by decide),if_neg (by decide),show (20000:Nat)=19997+1+1+1 from rfl,Dq.eq_2,hl,if_pos (by decide),if_pos (by decide),g0,if_pos (by simp;omega),w1,Dq.eq_2,hl,if_pos (by decide),if_pos (by decide),g1,if_pos (by simp;omega),w2,Dq.eq_2,hl,if_neg (by decide)];unfold I5;rw[if_pos (by simp;omega),List.nil_append];rfl
theorem Zq {k:Int} (hk:k=4∨k=5∨k=6) {a:List AE} (ha:a.length≤100000):R7 20000 k [a]=some (a++[bC k]):=by
 have hl:([a]:List (List AE)).length=1:=rfl;have g0:AA [a] (0:Int)=a:=rfl;have w1:AG ((0:Int)+1)=1:=CP (by omega) (by omega);have ht:U0 20000 k=some 1:=by rcases hk with rfl|rfl|rfl<;>rfl
 unfold R7;rw[ht,Option.bind_some,hl,if_neg (by decide),Option.bind_some,decide_eq_false (by decide),if_neg (by decide),show (20000:Nat)=19998+1+1 from rfl,Dq.eq_2,hl,if_pos (by decide),if_pos (by decide),g0,if_pos (by simp;omega),w1,Dq.eq_2,hl,if_neg (by decide)];unfold I5;rw[if_pos (by simp;omega),List.nil_append];rfl
def PR (s:ByteArray) (a:Nat) (o:Option (List AE×Bool×Ai)):Prop:=
 ∃ (l:List AE) (ok:Bool) (a':Nat) (dp:Int),o=some (l,ok,Ai.mk s (a':Int) dp)∧a≤a'∧a'≤s.size∧(∀ p∈l,U p.f1)∧l.length≤2*(a'-a)+1∧(ok=true→l.length+1≤2*(a'-a))
theorem PR.one {s:ByteArray} {a a':Nat} (h:a≤a') (h2:a'≤s.size) {v:Vector Int 4} (hv:U v) (k dp:Int) (b:Bool) (hb:b=true→a<a'):PR s a (some ([AE.mk k v],b,Ai.mk s (a':Int) dp)):=
 ⟨_,b,a',dp,rfl,h,h2,(fun p hp=>by rw[List.mem_singleton.1 hp];exact hv),by simp,fun q=>by have:=hb q;simp;omega⟩
theorem JQ (a b:Nat) (ha:a<256) (hb:b<256):bits .or .u8 (a:Int) (b:Int)=((a ||| b:Nat):Int)∧a ||| b<256:=by
 have hx:a ||| b<2 ^ 8:=Nat.or_lt_two_pow (by omega) (by omega);have h1:(BitVec.ofInt 8 (a:Int)).toNat=a:=by
  rw[BitVec.ofInt_natCast,BitVec.toNat_ofNat];exact Nat.mod_eq_of_lt (by omega)
 have h2:(BitVec.ofInt 8 (b:Int)).toNat=b:=by
  rw[BitVec.ofInt_natCast,BitVec.toNat_ofNat];exact Nat.mod_eq_of_lt (by omega)
 refine⟨?_,hx⟩;show IntKind.u8.wrap ((BitVec.ofInt 8 (a:Int) ||| BitVec.ofInt 8 (b:Int)).toNat:Int)=_;rw[BitVec.toNat_or,h1,h2];exact HW (by omega) (by omega)
def sg (L:List (Vector Int 4)) (b x:Nat):Bool:=decide (x<L.length)&&tb (L.getD x default) b
def bt (row:List Int) (x:Nat):Bool:=(row.getD (x / 8) 0).toNat.testBit (x%8)
def Jc (L:List (Vector Int 4)) (b q i:Nat) (row:List Int):Prop:=
 row.length=q∧(∀ x∈row,0≤x∧x≤255)∧∀ x,x<8*q→bt row x=(decide (x<i)&&sg L b x)
theorem Vz {L:List (Vector Int 4)} {b q i:Nat} {row:List Int} (h:Jc L b q i row) (hi:i<8*q) (hs:sg L b i=true):
 Jc L b q (i+1) (AU row ((i / 8:Nat):Int) (bits .or .u8 (AA row ((i / 8:Nat):Int)) (IntKind.u8.wrap ((1:Int)*2 ^ (min (i%8) IntKind.u8.bits))))):=by
 obtain⟨h1,h2,h3⟩:=h;have hj:i / 8<row.length:=by omega
 have el:AA row ((i / 8:Nat):Int)=row[i / 8]:=by
  unfold AA;rw[Int.toNat_natCast,List.getD,List.getElem?_eq_getElem hj];rfl
 have hb:=h2 row[i / 8] (List.getElem_mem hj);obtain⟨w,hw⟩:∃ w:Nat,row[i / 8]=w:=⟨row[i / 8].toNat,by omega⟩;have hp:(2:Nat) ^ (i%8)<256:=Nat.lt_of_lt_of_le (Nat.pow_lt_pow_right (by omega) (by omega:i%8<8)) (by decide:2 ^ 8≤256);have e5:IntKind.u8.wrap ((1:Int)*2 ^ (min (i%8) IntKind.u8.bits))=((2 ^ (i%8):Nat):Int):=by
  rw[show min (i%8) IntKind.u8.bits=i%8 by show min (i%8) 8=i%8;omega];have e3:((1:Int)*2 ^ (i%8))=((2 ^ (i%8):Nat):Int):=by simp
  rw[e3];generalize 2 ^ (i%8)=z at hp⊢
  exact HW (by omega) (by omega)
 obtain⟨o1,o2⟩:=JQ w (2 ^ (i%8)) (by omega) hp;rw[el,hw,e5,o1];refine⟨by unfold AU;rw[List.length_set];exact h1,fun x hx=>?_,fun x hx=>?_⟩
 ·unfold AU at hx;rcases List.mem_or_eq_of_mem_set hx with h|h
  ·exact h2 x h
  ·rw[h];omega
 ·have hb0:=h3 x hx;unfold bt AU at *
  rw[Int.toNat_natCast];by_cases r:x / 8=i / 8
  ·rw[r,List.getD,List.getElem?_set_self hj];rw[r,List.getD,List.getElem?_eq_getElem hj,hw]at hb0;simp only[Option.getD_some,Int.toNat_natCast]at hb0⊢
   rw[Nat.testBit_or,hb0,Nat.testBit_two_pow];by_cases u:x=i
   ·subst u;rw[hs];simp
   ·rw[decide_eq_false (p:=i%8=x%8) (by omega),Bool.or_false];congr 1;rw[decide_eq_decide];omega
  ·rw[List.getD,List.getElem?_set_ne (fun h=>r h.symm)];rw[List.getD]at hb0;rw[hb0];congr 1;rw[decide_eq_decide];have:x≠i:=fun h=>r (by rw[h]);omega
theorem Tu {L:List (Vector Int 4)} {b q i:Nat} {row:List Int} (h:Jc L b q i row) (hs:sg L b i=false):Jc L b q (i+1) row:=by
 obtain⟨h1,h2,h3⟩:=h;refine⟨h1,h2,fun x hx=>?_⟩;rw[h3 x hx];by_cases u:x=i
 ·subst u;rw[hs];simp
 ·congr 1;rw[decide_eq_decide];omega
theorem Sb (L:List (Vector Int 4)) (hL:∀ a∈L,U a) (b:Nat) (hb:b<256) (q:Nat) (hq:L.length≤8*q) (hz:q≤8000):∀ (m i fuel:Nat) (row:List Int),i+m=L.length→m<fuel→Jc L b q i row→
 ∃ row',Ci 20000 L (b:Int) fuel row i=some (strOfNums row')∧Jc L b q L.length row'
 | 0,i,f+1,row,h,_,hr=>by
   rw[Ci.eq_2,if_neg (by omega),Mi];exact⟨row,rfl,by rw[show L.length=i by omega];exact hr⟩
 | m+1,i,f+1,row,h,hf,hr=>by
   have hi:i<L.length:=by omega
   have g:0≤(i:Int)∧(i:Int)<(L.length:Int):=⟨by omega,by omega⟩;have eb:AA L (i:Int)=L[i]:=by
    unfold AA;rw[show (i:Int).toNat=i by omega,List.getD,List.getElem?_eq_getElem hi];rfl
   have ed:L.getD i default=L[i]:=by rw[List.getD,List.getElem?_eq_getElem hi];rfl
   have hs:sg L b i=tb L[i] b:=by unfold sg;rw[decide_eq_true hi,Bool.true_and,ed]
   have e1:IntKind.i64.wrap ((i:Int).tdiv 8)=((i / 8:Nat):Int):=by
    have h1:(i:Int).tdiv 8=((i / 8:Nat):Int):=by rw[Int.tdiv_eq_ediv_of_nonneg (by omega)];omega
    rw[h1];have:=A1 (n:=((i / 8:Nat):Int)) (by omega) (by omega);exact this
   have e2:u64 ((i:Int).tmod 8)=((i%8:Nat):Int):=by
    have h1:(i:Int).tmod 8=((i%8:Nat):Int):=by rw[Int.tmod_eq_emod_of_nonneg (by omega)];omega
    rw[h1,G2];omega
   have hlen:=hr.1;rw[Ci.eq_2,if_pos g.2,if_pos g,eb,Pj (hL _ (List.getElem_mem hi)) hb,Option.bind_some];by_cases t:tb L[i] b=true
   ·rw[if_pos t,e1,e2,if_pos ⟨by omega,by omega⟩,if_pos (by omega),if_pos ⟨by omega,by omega⟩,Int.toNat_natCast];unfold G0;rw[A1 (by omega) (by omega)];have:=Sb L hL b hb q hq hz m (i+1) f _ (by omega) (by omega) (Vz hr (by omega) (by rw[hs];exact t));exact_mod_cast this
   ·rw[if_neg t];unfold G0;rw[A1 (by omega) (by omega)];have:=Sb L hL b hb q hq hz m (i+1) f row (by omega) (by omega) (Tu hr (by rw[hs];simpa using t));exact_mod_cast this
theorem S8 (L:List (Vector Int 4)) (hL:∀ a∈L,U a) (hn:L.length≤8000) (b:Nat) (hb:b<256):∃ row,Ti 20000 L (b:Int)=some (strOfNums row)∧Jc L b ((L.length+7) / 8) L.length row:=by
 have e:IntKind.i64.wrap ((AG ((L.length:Int)+7)).tdiv 8)=(((L.length+7) / 8:Nat):Int):=by
  rw[A1 (by omega) (by omega)];have h1:((L.length:Int)+7).tdiv 8=(((L.length+7) / 8:Nat):Int):=by rw[Int.tdiv_eq_ediv_of_nonneg (by omega)];omega
  rw[h1];have:=A1 (n:=(((L.length+7) / 8:Nat):Int)) (by omega) (by omega);exact this
 unfold Ti;rw[e,if_pos ⟨by omega,by omega,by omega⟩,Int.toNat_natCast]
 have:=Sb L hL b hb ((L.length+7) / 8) (by omega) (by omega) L.length 0 20000 (List.replicate ((L.length+7) / 8) 0) (by omega) (by omega) ⟨by simp,fun x hx=>by rw[(List.mem_replicate.1 hx).2];omega,fun x hx=>by
  unfold bt
  rw[List.getD,List.getElem?_replicate,if_pos (by omega)];simp⟩
 exact this
theorem VO {L:List (Vector Int 4)} {b c q:Nat} (hq:L.length≤8*q) {r s:List Int} (hr:Jc L b q L.length r) (hs:Jc L c q L.length s):strOfNums r=strOfNums s↔∀ x,sg L b x=sg L c x:=by
 constructor
 ·intro h x;have e:=Cl hr.2.1 hs.2.1 h;by_cases hx:x<L.length
  ·have h1:=hr.2.2 x (by omega);have h2:=hs.2.2 x (by omega);rw[e,h2,decide_eq_true hx,Bool.true_and,Bool.true_and]at h1;exact h1.symm
  ·unfold sg;rw[decide_eq_false hx];rfl
 ·intro h;congr 1;apply List.ext_getElem (by rw[hr.1,hs.1]);intro j h1 h2;have b1:=hr.2.1 r[j] (List.getElem_mem h1);have b2:=hs.2.1 s[j] (List.getElem_mem h2);have:r[j].toNat=s[j].toNat:=by
   apply Nat.eq_of_testBit_eq;intro t;by_cases ht:t<8
   ·have k1:=hr.2.2 (8*j+t) (by have:=hr.1;omega);have k2:=hs.2.2 (8*j+t) (by have:=hr.1;omega);rw[h]at k1;rw[←k2]at k1;unfold bt at k1;rw[show (8*j+t) / 8=j by omega,show (8*j+t)%8=t by omega,List.getD,List.getD,List.getElem?_eq_getElem h1,List.getElem?_eq_getElem h2]at k1;exact k1
   ·have hp:256≤2 ^ t:=Nat.le_trans (by decide:256≤2 ^ 8) (Nat.pow_le_pow_right (by omega) (by omega));rw[Nat.testBit_lt_two_pow (by omega),Nat.testBit_lt_two_pow (by omega)]
  omega
def W9 (e:Nat→Bool) (b:Nat):Nat→Nat→Nat
 | 0,_=>b
 | f+1,i=>if e i=true then i else W9 e b f (i+1)
theorem OY (e:Nat→Bool) (b:Nat) (hb:e b=true):∀ (f i:Nat),i+f=b→W9 e b f i≤b∧i≤W9 e b f i∧e (W9 e b f i)=true∧∀ c,i≤c→c<W9 e b f i→e c=false
 | 0,i,h=>by rw[W9];exact⟨by omega,by omega,hb,fun c h1 h2=>by omega⟩
 | f+1,i,h=>by
   rw[W9];by_cases q:e i=true
   ·rw[if_pos q];exact⟨by omega,by omega,q,fun c h1 h2=>by omega⟩
   ·rw[if_neg q];obtain⟨h1,h2,h3,h4⟩:=OY e b hb f (i+1) (by omega);refine⟨h1,by omega,h3,fun c k1 k2=>?_⟩;by_cases r:c=i
    ·subst r;simpa using q
    ·exact h4 c (by omega) k2
section
variable (kk:Nat→ByteArray)
def rc (b:Nat):Nat:=W9 (fun c=>decide (kk c=kk b)) b b 0
theorem A6 (b:Nat):rc kk b≤b∧kk (rc kk b)=kk b∧∀ c,c<rc kk b→kk c≠kk b:=by
 obtain⟨h1,h2,h3,h4⟩:=OY (fun c=>decide (kk c=kk b)) b (by simp) b 0 (by omega);exact⟨h1,of_decide_eq_true h3,fun c hc=>of_decide_eq_false (h4 c (by omega) hc)⟩
theorem Q4 {b r:Nat} (h1:kk r=kk b) (h2:∀ c,c<r→kk c≠kk b):rc kk b=r:=by
 obtain⟨k1,k2,k3⟩:=A6 kk b;rcases Nat.lt_trichotomy (rc kk b) r with h|h|h
 ·exact absurd k2 (h2 _ h)
 ·exact h
 ·exact absurd h1 (k3 _ h)
theorem Ig {b c:Nat} (h:kk c=kk b):rc kk c=rc kk b:=by
 obtain⟨k1,k2,k3⟩:=A6 kk b;exact Q4 kk (by rw[k2,h]) (fun d hd=>by rw[h];exact k3 d hd)
theorem Fk (b:Nat):rc kk (rc kk b)=rc kk b:=Ig kk (A6 kk b).2.1
def nc:Nat→Nat
 | 0=>0
 | b+1=>nc b+if rc kk b=b then 1 else 0
theorem Fv (b:Nat):nc kk b≤b:=by
 induction b with
 | zero=>exact Nat.le_refl _
 | succ b ih=>rw[nc];split<;>omega
theorem HE {b c:Nat} (h:b≤c):nc kk b≤nc kk c:=by
 induction h with
 | refl=>exact Nat.le_refl _
 | step _ ih=>rw[nc];omega
def ck (b:Nat):Nat:=nc kk (rc kk b)
theorem C2 {b c:Nat} (h:kk c=kk b):ck kk c=ck kk b:=by unfold ck;rw[Ig kk h]
theorem Fl (b:Nat):ck kk b≤b:=Nat.le_trans (Fv kk _) (A6 kk b).1
theorem Hc (v:Vector Int 256) (i j:Nat) (x:Int) (hi:i<256) (hj:j<256):AZ (BP v (i:Int) x) (j:Int)=if j=i then x else AZ v (j:Int):=by
 unfold AZ BP;rw[Int.toNat_natCast,Int.toNat_natCast,Vector.toList_setIfInBounds,List.getD,List.getD,List.getElem?_set];by_cases e:i=j
 ·subst e;rw[if_pos rfl,if_pos rfl,if_pos (by simpa using hi)];rfl
 ·rw[if_neg e,if_neg (fun h=>e h.symm)]
def GH (b:Nat) (m:List (ByteArray×Int)):Prop:=
 m.length=nc kk b∧(∀ c,c<b→Ay m (kk c)=some (ck kk c:Int))∧∀ s,(∀ c,c<b→kk c≠s)→Ay m s=none
theorem Ju {L:List (Vector Int 4)} (hk:∀ b:Nat,b<256→Ti 20000 L (b:Int)=some (kk b)):∀ (m b fuel:Nat) (v:Vector Int 256) (mp:List (ByteArray×Int)),b+m=256→m<fuel→GH kk b mp→(∀ c,c<b→AZ v (c:Int)=(ck kk c:Int))→
 ∃ v',D2 20000 L fuel v mp b=some v'∧∀ c:Nat,c<256→AZ v' (c:Int)=(ck kk c:Int)
 | 0,b,f+1,v,mp,h,_,_,hv=>by
   rw[D2.eq_2,if_neg (by omega),L9];exact⟨v,rfl,fun c hc=>hv c (by omega)⟩
 | m+1,b,f+1,v,mp,h,hf,hm,hv=>by
   have hb:b<256:=by omega
   have hcl:=Fl kk b;have fin:∀ mp',GH kk (b+1) mp'→∃ v',H6 20000 (D2 20000 L f) v (b:Int) mp' (ck kk b:Int)=some v'∧∀ c:Nat,c<256→AZ v' (c:Int)=(ck kk c:Int):=by
    intro mp' hm';unfold H6;rw[if_pos ⟨by omega,by omega⟩,HW (by omega) (by omega),A1 (by omega) (by omega)]
    have:=Ju hk m (b+1) f (BP v (b:Int) (ck kk b:Int)) mp' (by omega) (by omega) hm' (fun c hc=>by
     rw[Hc _ _ _ _ hb (by omega)];by_cases q:c=b
     ·subst q;rw[if_pos rfl]
     ·rw[if_neg q];exact hv c (by omega))
    exact_mod_cast this
   rw[D2.eq_2,if_pos (by omega),HW (by omega) (by omega),hk b hb,Option.bind_some];obtain⟨r1,r2,r3⟩:=A6 kk b;obtain⟨m1,m2,m3⟩:=hm;by_cases q:rc kk b=b
   ·have hn:Ay mp (kk b)=none:=m3 _ (fun c hc=>r3 c (by omega));have hc:ck kk b=nc kk b:=by unfold ck;rw[q]
    rw[hn,if_pos (by rfl),m1, ←hc];refine fin _ ⟨?_,fun c hc'=>?_,fun s hs=>?_⟩
    ·rw[LI hn,List.length_append,m1,nc,if_pos q];rfl
    ·rw[Dg];by_cases r:c=b
     ·subst r;rw[if_pos rfl]
     ·rw[if_neg (fun h=>r3 c (by omega) h.symm),m2 c (by omega)]
    ·rw[Dg,if_neg (hs b (by omega)),m3 s (fun c hc=>hs c (by omega))]
   ·have hg:Ay mp (kk b)=some (ck kk b:Int):=by
     rw[←r2,m2 _ (by omega),C2 kk r2]
    rw[hg,if_neg (by simp)];refine fin mp ⟨by rw[m1,nc,if_neg q];rfl,fun c hc'=>?_,fun s hs=>m3 s (fun c hc=>hs c (by omega))⟩;by_cases r:c=b
    ·subst r;exact hg
    ·exact m2 c (by omega)
theorem JI (v:Vector Int 256) (hv:∀ c:Nat,c<256→AZ v (c:Int)=(ck kk c:Int)):∀ (m b fuel:Nat),b+m=256→m<fuel→Cj 20000 v fuel (nc kk b:Int) (b:Int)=some (nc kk 256:Int)
 | 0,b,f+1,h,_=>by
   rw[Cj.eq_2,if_neg (by omega),JA,show b=256 by omega]
 | m+1,b,f+1,h,hf=>by
   have hb:b<256:=by omega
   have hcl:=Fl kk b;have hnl:=Fv kk b;rw[Cj.eq_2,if_pos (by omega),if_pos ⟨by omega,by omega⟩,hv b hb,A1 (n:=(ck kk b:Int)) (by omega) (by omega),A1 (n:=(ck kk b:Int)+1) (by omega) (by omega),A1 (by omega) (by omega)];have e:max (nc kk b:Int) ((ck kk b:Int)+1)=(nc kk (b+1):Int):=by
    obtain⟨r1,r2,r3⟩:=A6 kk b;by_cases q:rc kk b=b
    ·have:ck kk b=nc kk b:=by unfold ck;rw[q]
     rw[nc,if_pos q,this];omega
    ·have h1:nc kk (rc kk b+1)≤nc kk b:=HE kk (by omega);rw[nc,if_pos (Fk kk b)]at h1;have h2:ck kk b+1≤nc kk b:=h1;rw[nc,if_neg q];omega
   rw[e];have:=JI v hv m (b+1) f (by omega) (by omega);exact_mod_cast this
end
theorem Di (l:List Bool) (i q:Int) (h0:0≤i) (h1:i<(l.length:Int)) (hq:0≤q):AA (AU l i true) q=(decide (q=i)||AA l q):=by
 unfold AA AU;rw[List.getD,List.getD,List.getElem?_set];by_cases e:i.toNat=q.toNat
 ·rw[if_pos e,if_pos (by omega),decide_eq_true (by omega)];rfl
 ·rw[if_neg e,decide_eq_false (by omega)];rfl
theorem Nj (N:Nat) (q:Int):AA (List.replicate N false) q=false:=by
 unfold AA;rw[List.getD,List.getElem?_replicate];split<;>rfl
inductive FR (l:List AR):Int→Int→Prop
 | refl (p:Int):FR l p p
 | tail {p:Int} {e:AR}:FR l p e.f0→e∈l→e.f3=true→FR l p e.f1
theorem FR.trans {l:List AR} {p q r:Int} (h:FR l p q) (k:FR l q r):FR l p r:=by
 induction k with
 | refl=>exact h
 | tail _ he hf ih=>exact .tail ih he hf
def XS (L:List AR) (x o:List Bool):Prop:=∀ q:Int,0≤q→AA o q=true→∃ p,0≤p∧AA x p=true∧FR L p q
theorem Vw {L:List AR} {x:List Bool} {s:List Bool×Bool} {e:AR} (he:e∈L) (h0:0≤e.f0) (h1:0≤e.f1∧e.f1<(s.1.length:Int)) (h:XS L x s.1):XS L x (HK s e).1:=by
 unfold HK;split
 ·rename_i c;intro q hq hg;simp only[]at hg;rw[Di s.1 e.f1 q h1.1 h1.2 hq,Bool.or_eq_true,decide_eq_true_eq]at hg;rcases hg with rfl|hg
  ·obtain⟨p,p1,p2,p3⟩:=h e.f0 h0 c.2.1;exact⟨p,p1,p2,.tail p3 he c.1⟩
  ·exact h q hq hg
 ·exact h
theorem NV {L:List AR} {x:List Bool} {N:Int}:∀ (l:List AR) (s:List Bool×Bool),(∀ e∈l,e∈L∧0≤e.f0∧0≤e.f1∧e.f1<N)→(s.1.length:Int)=N→XS L x s.1→XS L x (Bz l s).1
 | [],s,_,_,h=>h
 | e::l,s,hl,hs,h=>by
   have he:=hl e (by simp);show XS L x (Bz l (HK s e)).1;exact NV l _ (fun e' h'=>hl e' (by simp[h'])) (by rw[Ie];exact hs) (Vw he.1 he.2.1 ⟨he.2.2.1,by rw[hs];exact he.2.2.2⟩ h)
theorem Ts {s:List Bool×Bool} {e:AR} (h1:0≤e.f1∧e.f1<(s.1.length:Int)) {q:Int} (hq:0≤q) (h:AA s.1 q=true):AA (HK s e).1 q=true:=by
 unfold HK;split
 ·show AA (AU s.1 e.f1 true) q=true;rw[Di s.1 e.f1 q h1.1 h1.2 hq,h,Bool.or_true]
 ·exact h
theorem Kc {N:Int} {q:Int} (hq:0≤q):∀ (l:List AR) (s:List Bool×Bool),(∀ e∈l,0≤e.f1∧e.f1<N)→(s.1.length:Int)=N→AA s.1 q=true→AA (Bz l s).1 q=true
 | [],s,_,_,h=>h
 | e::l,s,hl,hs,h=>by
   show AA (Bz l (HK s e)).1 q=true;exact Kc hq l _ (fun e' h'=>hl e' (by simp[h'])) (by rw[Ie];exact hs) (Ts (by rw[hs];exact hl e (by simp)) hq h)
theorem Ke:∀ (l:List AR) (s:List Bool×Bool),s.2=true→(Bz l s).2=true
 | [],s,h=>h
 | e::l,s,h=>by
   show (Bz l (HK s e)).2=true;refine Ke l _ ?_;unfold HK;split
   ·rfl
   ·exact h
theorem IQ:∀ (l:List AR) (x:List Bool),(Bz l (x,false)).2=false→(Bz l (x,false)).1=x∧∀ e∈l,e.f3=true→AA x e.f0=true→AA x e.f1=true
 | [],x,_=>⟨rfl,fun e he=>by cases he⟩
 | e::l,x,h=>by
   have h':(Bz l (HK (x,false) e)).2=false:=h;show (Bz l (HK (x,false) e)).1=x∧_;have hs:HK (x,false) e=(x,false)∧¬ (e.f3=true∧AA x e.f0=true∧AA x e.f1=false):=by
    by_cases c:e.f3=true∧AA x e.f0=true∧AA x e.f1=false
    ·have hf:(HK (x,false) e).2=true:=by unfold HK;rw[if_pos c]
     rw[Ke l _ hf]at h';cases h'
    ·exact⟨by unfold HK;rw[if_neg c],c⟩
   rw[hs.1]at h'⊢
   obtain⟨k1,k2⟩:=IQ l x h';refine⟨k1,fun e' he' f1 f2=>?_⟩;rcases List.mem_cons.1 he' with rfl|he'
   ·cases q:AA x e'.f1 with
    | true=>rfl
    | false=>exact absurd ⟨f1,f2,q⟩ hs.2
   ·exact k2 e' he' f1 f2
theorem TV {n:Ar} (h:Rt n) {x0:List Bool}:∀ (k:Nat) (x:List Bool),x.length=NN n→XS n.f1 x0 x→XS n.f1 x0 (cl n.f1 k x)
 | 0,x,_,hs=>hs
 | k+1,x,hx,hs=>by
   have hnn:=h.nn;have hp:=NV (L:=n.f1) (x:=x0) (N:=n.f0) n.f1 (x,false) (fun e he=>⟨he,(h.ed e he).1,(h.ed e he).2.2.1,(h.ed e he).2.2.2⟩) (by show (x.length:Int)=_;omega) hs;rw[cl];split
   ·exact TV h k _ ((C8 _ _).trans hx) hp
   ·exact hp
theorem Q6 {n:Ar} (h:Rt n) {q:Int} (hq:0≤q):∀ (k:Nat) (x:List Bool),x.length=NN n→AA x q=true→AA (cl n.f1 k x) q=true
 | 0,x,_,hs=>hs
 | k+1,x,hx,hs=>by
   have hnn:=h.nn;have hp:=Kc (N:=n.f0) hq n.f1 (x,false) (fun e he=>⟨(h.ed e he).2.2.1,(h.ed e he).2.2.2⟩) (by show (x.length:Int)=_;omega) hs;rw[cl];split
   ·exact Q6 h hq k _ ((C8 _ _).trans hx) hp
   ·exact hp
theorem Kj {n:Ar} (h:Rt n):∀ (k:Nat) (x:List Bool),x.length=NN n→NN n-cnt x<k→∀ e∈n.f1,e.f3=true→AA (cl n.f1 k x) e.f0=true→AA (cl n.f1 k x) e.f1=true
 | 0,x,_,hk=>by omega
 | k+1,x,hx,hk=>by
   have hnn:=h.nn;rw[cl];split
   ·rename_i q;have hp:=C8 n.f1 (x,false);have hp':(Bz n.f1 (x,false)).1.length=x.length:=hp;have hle:=Jv (Bz n.f1 (x,false)).1;rcases HU n.f0 n.f1 (x,false) (fun e he=>⟨(h.ed e he).2.2.1,(h.ed e he).2.2.2⟩) (by show (x.length:Int)=_;omega)with r|⟨_,r⟩
    ·rw[r]at q;cases q
    ·have r':cnt x<cnt (Bz n.f1 (x,false)).1:=r;exact Kj h k _ (hp'.trans hx) (by rw[hp']at hle;omega)
   ·rename_i q;obtain⟨k1,k2⟩:=IQ n.f1 x (by simpa using q);rw[k1];exact k2
theorem GD {n:Ar} (h:Rt n) {x:List Bool} (hx:x.length=NN n) {q:Int} (hq:0≤q):AA (CL n x) q=true↔∃ p,0≤p∧AA x p=true∧FR n.f1 p q:=by
 constructor
 ·intro hg;exact TV h (NN n+1) x hx (fun q h0 h1=>⟨q,h0,h1,.refl q⟩) q hq hg
 ·rintro⟨p,p0,p1,p2⟩;have base:=Q6 h p0 (NN n+1) x hx p1;have key:∀ r,FR n.f1 p r→AA (CL n x) r=true:=by
   intro r hr
   induction hr with
   | refl=>exact base
   | tail _ he hf ih=>exact Kj h (NN n+1) x hx (by omega) _ he hf ih
  exact key q p2
theorem QX (x:List Bool) (b:Nat) {N:Int} {q:Int} (hq:0≤q):∀ (l:List AR) (o:List Bool),(∀ e∈l,0≤e.f1∧e.f1<N)→(o.length:Int)=N→
 (AA (l.foldl (NM x b) o) q=true↔AA o q=true∨∃ e∈l,e.f3=false∧e.f0<(x.length:Int)∧AA x e.f0=true∧tb e.f2 b=true∧e.f1=q)
 | [],o,_,_=>by simp
 | e::l,o,hl,ho=>by
   have he:=hl e (by simp);have ih:=QX x b hq l (NM x b o e) (fun e' h'=>hl e' (by simp[h'])) (by rw[Pu];exact ho);rw[List.foldl_cons,ih];have h1:AA (NM x b o e) q=true↔AA o q=true∨(e.f3=false∧e.f0<(x.length:Int)∧AA x e.f0=true∧tb e.f2 b=true∧e.f1=q):=by
    unfold NM;split
    ·rename_i c;rw[Di o e.f1 q he.1 (by rw[ho];exact he.2) hq,Bool.or_eq_true,decide_eq_true_eq];constructor
     ·rintro (r|r)
      ·exact .inr ⟨c.1,c.2.1,c.2.2.1,c.2.2.2,r.symm⟩
      ·exact .inl r
     ·rintro (r|r)
      ·exact .inr r
      ·exact .inl r.2.2.2.2.symm
    ·rename_i c;exact⟨.inl,fun r=>r.elim id fun r=>absurd ⟨r.1,r.2.1,r.2.2.1,r.2.2.2.1⟩ c⟩
   rw[h1,or_assoc];simp[List.mem_cons,or_and_right,exists_or]
theorem PC {n:Ar} (h:Rt n) (x:List Bool) (b:Nat) {q:Int} (hq:0≤q):AA (MV n x b) q=true↔∃ e∈n.f1,e.f3=false∧e.f0<(x.length:Int)∧AA x e.f0=true∧tb e.f2 b=true∧e.f1=q:=by
 have hnn:=h.nn;have:=QX x b (N:=n.f0) hq n.f1 (List.replicate (NN n) false) (fun e he=>⟨(h.ed e he).2.2.1,(h.ed e he).2.2.2⟩) (by rw[List.length_replicate];omega);unfold MV;rw[this,Nj];simp
inductive U1 (n:Ar) (s:ByteArray):Nat→Int→Prop
 | start:U1 n s 0 n.f2
 | free {i:Nat} {e:AR}:U1 n s i e.f0→e∈n.f1→e.f3=true→U1 n s i e.f1
 | byte {i:Nat} {e:AR}:U1 n s i e.f0→e∈n.f1→e.f3=false→tb e.f2 (AF s i).toNat=true→U1 n s (i+1) e.f1
theorem U1.fr {n:Ar} {s:ByteArray} {i:Nat} {p q:Int} (h:U1 n s i p) (k:FR n.f1 p q):U1 n s i q:=by
 induction k with
 | refl=>exact h
 | tail _ he hf ih=>exact .free ih he hf
theorem U1.in {n:Ar} (h:Rt n) {s:ByteArray} {i:Nat} {q:Int} (k:U1 n s i q):0≤q∧q<n.f0:=by
 cases k with
 | start=>exact h.first
 | free _ he _=>exact(h.ed _ he).2.2
 | byte _ he _ _=>exact(h.ed _ he).2.2
end Go.Avl.T8
