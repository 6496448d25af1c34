/- Parts: T7W, T7S1, T7P1, T7E2, T7R1, T7A0, T7N1, T7R2, T7P2, T7P3, T7C1, T7C2, T7N2. -/
import Derived.Test.YtpkgpmmcbpfenaaAF1
import Derived.Test.YtpkgpmmcbpfenaaAv3
import Derived.Test.YtpkgpmmcbpfenaaAF6
import Derived.Test.YtpkgpmmcbpfenaaAF3
import Derived.Laws.Bits64b
import Derived.Test.YtpkgpmmcbpfenaaAF7
import Derived.Test.YtpkgpmmcbpfenaaAF8
import Derived.Test.YtpkgpmmcbpfenaaAF2
import Derived.Test.YtpkgpmmcbpfenaaAF4
namespace Go.Avl.T7
open Go Go.RowKit Go.Proofs Go.Avl
set_option linter.unusedVariables false
set_option maxRecDepth 100000
abbrev wf9:ByteArray→Prop:=(fun s:ByteArray=>s.size≤9223372036854775807)
theorem op9:Opens Try.prog 9 eStr wf9:=opens_string Try.underlying9
end Go.Avl.T7
namespace Go.Avl.T7
open Go Go.RowKit Go.Proofs Go.Avl
set_option linter.all false
set_option maxRecDepth 10000
def U (a:Vector Int 4):Prop:=∀ j:Nat,j<4→0≤vget a (j:Int)∧vget a (j:Int)<18446744073709551616
def wd (a:Vector Int 4) (j:Nat):Nat:=(vget a (j:Int)).toNat
def tb (a:Vector Int 4) (b:Nat):Bool:=(wd a (b / 64)).testBit (b%64)
theorem wd_eq {a:Vector Int 4} (h:U a) (j:Nat) (hj:j<4):vget a (j:Int)=(wd a j:Int)∧wd a j<18446744073709551616:=by
 have:=h j hj
 unfold wd;omega
theorem vget_vset (v:Vector Int 4) (i j:Nat) (x:Int) (hi:i<4) (hj:j<4):vget (vset v (i:Int) x) (j:Int)=if j=i then x else vget v (j:Int):=by
 unfold vget vset
 rw[Int.toNat_natCast,Int.toNat_natCast,Vector.toList_setIfInBounds,List.getD,List.getD,List.getElem?_set]
 by_cases e:i=j
 ·subst e;rw[if_pos rfl,if_pos rfl,if_pos (by simpa using hi)];rfl
 ·rw[if_neg e,if_neg (fun h=>e h.symm)]
theorem vext {a c:Vector Int 4} (h:∀ j:Nat,j<4→vget a (j:Int)=vget c (j:Int)):a=c:=by
 apply Vector.toList_inj.1
 apply List.ext_getElem
 ·simp
 ·intro j h1 h2
  have hj:j<4:=by simpa using h1
  have:=h j hj
  unfold vget at this
  rw[Int.toNat_natCast,List.getD,List.getD,List.getElem?_eq_getElem h1,List.getElem?_eq_getElem h2]at this
  simpa using this
theorem ext_tb {a c:Vector Int 4} (ha:U a) (hc:U c) (h:∀ b,b<256→tb a b=tb c b):a=c:=by
 apply vext
 intro j hj
 obtain⟨e1,l1⟩:=wd_eq ha j hj
 obtain⟨e2,l2⟩:=wd_eq hc j hj
 rw[e1,e2]
 congr 1
 apply Nat.eq_of_testBit_eq
 intro i
 by_cases hi:i<64
 ·have:=h (64*j+i) (by omega)
  unfold tb at this
  rwa [show (64*j+i) / 64=j by omega,show (64*j+i)%64=i by omega]at this
 ·have hp:18446744073709551616≤2 ^ i:=Nat.le_trans (by decide:18446744073709551616≤2 ^ 64) (Nat.pow_le_pow_right (by omega) (by omega))
  rw[Nat.testBit_lt_two_pow (by omega),Nat.testBit_lt_two_pow (by omega)]
theorem U_zero:U (Vector.replicate 4 (0:Int)):=by
 intro j hj
 have:vget (Vector.replicate 4 (0:Int)) (j:Int)=0:=by
  have:j=0∨j=1∨j=2∨j=3:=by omega
  rcases this with rfl|rfl|rfl|rfl<;>rfl
 rw[this];omega
theorem tb_zero (b:Nat) (hb:b<256):tb (Vector.replicate 4 (0:Int)) b=false:=by
 have hj:b / 64<4:=by omega
 have:vget (Vector.replicate 4 (0:Int)) ((b / 64:Nat):Int)=0:=by
  generalize b / 64=j at hj
  have:j=0∨j=1∨j=2∨j=3:=by omega
  rcases this with rfl|rfl|rfl|rfl<;>rfl
 unfold tb wd
 rw[this];simp
theorem or_bit {w:Nat} (hw:w<18446744073709551616) {i:Nat} (hi:i<64):bits .or .u64 (w:Int) (IntKind.u64.wrap ((1:Int)*2 ^ (min i IntKind.u64.bits)))=((w ||| 2 ^ i:Nat):Int)∧w ||| 2 ^ i<18446744073709551616:=by
 have hp:(2:Nat) ^ i<18446744073709551616:=Nat.lt_of_lt_of_le (Nat.pow_lt_pow_right (by omega) hi) (by decide:2 ^ 64≤18446744073709551616)
 have e:IntKind.u64.wrap ((1:Int)*2 ^ (min i IntKind.u64.bits))=((2 ^ i:Nat):Int):=by
  rw[show min i IntKind.u64.bits=i by show min i 64=i;omega]
  have:=u64_eq (1*2 ^ i)
  unfold u64 at this
  rw[this]
  have e3:((1:Int)*2 ^ i)=((2 ^ i:Nat):Int):=by simp
  rw[e3]
  generalize 2 ^ i=q at hp⊢
  omega
 rw[e,bits_or_u64_nat w (2 ^ i) hw hp]
 exact⟨rfl,Nat.or_lt_two_pow (n:=64) hw hp⟩
theorem put_bit {a:Vector Int 4} (h:U a) {b:Nat} (hb:b<256):∀ c,c=vset a ((b / 64:Nat):Int) (bits .or .u64 (vget a ((b / 64:Nat):Int)) (IntKind.u64.wrap ((1:Int)*2 ^ (min (b%64) IntKind.u64.bits))))→U c∧∀ x,x<256→tb c x=(tb a x||decide (x=b)):=by
 rintro c rfl
 have hj:b / 64<4:=by omega
 obtain⟨e,l⟩:=wd_eq h (b / 64) hj
 obtain⟨o1,o2⟩:=or_bit l (i:=b%64) (by omega)
 rw[e,o1]
 constructor
 ·intro j hj'
  rw[vget_vset _ _ _ _ hj hj']
  split
  ·omega
  ·exact h j hj'
 ·intro x hx
  unfold tb wd
  rw[vget_vset _ _ _ _ hj (by omega)]
  by_cases q:x / 64=b / 64
  ·rw[if_pos q,Int.toNat_natCast,Nat.testBit_or,Nat.testBit_two_pow,q]
   congr 1
   rw[decide_eq_decide];omega
  ·rw[if_neg q]
   have:decide (x=b)=false:=decide_eq_false (fun e=>q (by rw[e]))
   rw[this,Bool.or_false]
theorem shr_eq (x k:Nat) (hk:k≤64):Int.fdiv (x:Int) (2 ^ (min (k:Int).toNat IntKind.u64.bits))=((x / 2 ^ k:Nat):Int):=by
 rw[Int.toNat_natCast,show min k IntKind.u64.bits=k by show min k 64=k;omega,Int.fdiv_eq_ediv_of_nonneg _ (by exact_mod_cast Nat.zero_le _)]
 norm_cast
theorem ix_i64 (i:Nat) (hi:i<100000):IntKind.i64.wrap ((i:Int).tdiv 64)=((i / 64:Nat):Int):=by
 have h1:(i:Int).tdiv 64=((i / 64:Nat):Int):=by rw[Int.tdiv_eq_ediv_of_nonneg (by omega)];omega
 rw[h1];have:=w64_id (n:=((i / 64:Nat):Int)) (by omega) (by omega);exact this
theorem ix_u64 (i:Nat) (hi:i<100000):u64 ((i:Int).tmod 64)=((i%64:Nat):Int):=by
 have h1:(i:Int).tmod 64=((i%64:Nat):Int):=by rw[Int.tmod_eq_emod_of_nonneg (by omega)];omega
 rw[h1,u64_eq];omega
theorem tmod64 (i:Nat):(i:Int).tmod 64=((i%64:Nat):Int):=by rw[Int.tmod_eq_emod_of_nonneg (by omega)];omega
theorem ix_u8 (i:Nat) (hi:i<256):IntKind.u8.wrap ((i:Int).tdiv 64)=((i / 64:Nat):Int):=by
 have h1:(i:Int).tdiv 64=((i / 64:Nat):Int):=by rw[Int.tdiv_eq_ediv_of_nonneg (by omega)];omega
 rw[h1];have:=w8_id (n:=((i / 64:Nat):Int)) (by omega) (by omega);exact this
theorem has_eq {a:Vector Int 4} (ha:U a) {x:Nat} (hx:x<256):F125 5000 a (x:Int)=some (tb a x):=by
 obtain⟨e,l⟩:=wd_eq ha (x / 64) (by omega)
 unfold F125
 rw[ix_u8 x hx,tmod64,if_pos ⟨by omega,by omega⟩,if_pos (by omega),e,shr_eq _ (x%64) (by omega)]
 have hb:=bits_and_u64_nat (wd a (x / 64) / 2 ^ (x%64)) 1 (Nat.lt_of_le_of_lt (Nat.div_le_self _ _) l) (by omega)
 have hb':bits .and .u64 ((wd a (x / 64) / 2 ^ (x%64):Nat):Int) 1=_:=hb
 rw[hb']
 unfold tb
 congr 1
 rw[Nat.and_one_is_mod]
 have h2:(wd a (x / 64)).testBit (x%64)=(wd a (x / 64) / 2 ^ (x%64)).testBit 0:=by
  rw[Nat.testBit_div_two_pow,Nat.zero_add]
 rw[h2,Nat.testBit_zero,decide_eq_decide]
 omega
theorem w6t {x:Int} (h0: -1000000000000≤x) (h1:x≤1000000000000):w64 x=x:=w64_id (by omega) (by omega)
theorem rhas_l (x:Nat) (hx:x<256):∀ (m i fuel:Nat) (w:Nat),i+m=x%64→m<fuel→w<18446744073709551616→
 F85_l1 5000 (x:Int) fuel (w:Int) (i:Int)=some (w.testBit m)
 | 0,i,f+1,w,h,_,hw=>by
   rw[F85_l1.eq_2,tmod64,if_neg (by omega),F85_c0,Nat.testBit_zero]
   congr 1
   rw[decide_eq_decide,Int.tmod_eq_emod_of_nonneg (by omega)];omega
 | m+1,i,f+1,w,h,hf,hw=>by
   have e:IntKind.u64.wrap ((w:Int).tdiv 2)=((w / 2:Nat):Int):=by
    rw[Int.tdiv_eq_ediv_of_nonneg (by omega)]
    have:=u64_eq ((w:Int) / 2)
    unfold u64 at this
    rw[this];omega
   rw[F85_l1.eq_2,tmod64,if_pos (by omega),e,w64_id (by omega) (by omega)]
   have:=rhas_l x hx m (i+1) f (w / 2) (by omega) (by omega) (by omega)
   rw[Nat.testBit_succ]
   exact_mod_cast this
theorem rhas_eq {a:Vector Int 4} (ha:U a) {x:Nat} (hx:x<256):F85 5000 a (x:Int)=some (tb a x):=by
 obtain⟨e,l⟩:=wd_eq ha (x / 64) (by omega)
 unfold F85
 rw[ix_i64 x (by omega),if_pos ⟨by omega,by omega⟩,e]
 have:=rhas_l x hx (x%64) 0 5000 (wd a (x / 64)) (by omega) (by omega) l
 exact this
theorem or_l (p1:Vector Int 4) (h1:U p1):∀ (m i fuel:Nat) (a:Vector Int 4),i+m=4→m<fuel→U a→
 ∃ c,F145_l1 5000 p1 fuel a i=some c∧U c∧∀ j:Nat,j<4→wd c j=if i≤j then wd a j ||| wd p1 j else wd a j
 | 0,i,f+1,a,h,_,ha=>by
   rw[F145_l1.eq_2,if_neg (by omega),F145_c0]
   exact⟨a,rfl,ha,fun j hj=>by rw[if_neg (by omega)]⟩
 | m+1,i,f+1,a,h,hf,ha=>by
   have hi:i<4:=by omega
   have g:0≤(i:Int)∧(i:Int)<4:=⟨by omega,by omega⟩
   obtain⟨e1,l1⟩:=wd_eq ha i hi
   obtain⟨e2,l2⟩:=wd_eq h1 i hi
   have ho:bits .or .u64 (vget a (i:Int)) (vget p1 (i:Int))=((wd a i ||| wd p1 i:Nat):Int):=by rw[e1,e2,bits_or_u64_nat _ _ l1 l2]
   have hlt:wd a i ||| wd p1 i<18446744073709551616:=Nat.or_lt_two_pow (n:=64) l1 l2
   have hU:U (vset a (i:Int) ((wd a i ||| wd p1 i:Nat):Int)):=by
    intro j hj
    rw[vget_vset _ _ _ _ hi hj]
    split
    ·omega
    ·exact ha j hj
   obtain⟨c,c1,c2,c3⟩:=or_l p1 h1 m (i+1) f (vset a (i:Int) ((wd a i ||| wd p1 i:Nat):Int)) (by omega) (by omega) hU
   rw[F145_l1.eq_2,if_pos g.2,if_pos g,if_pos g,if_pos g,ho,w64_id (by omega) (by omega)]
   refine⟨c,by exact_mod_cast c1,c2,fun j hj=>?_⟩
   rw[c3 j hj]
   have hw:wd (vset a (i:Int) ((wd a i ||| wd p1 i:Nat):Int)) j=if j=i then wd a i ||| wd p1 i else wd a j:=by
    unfold wd
    rw[vget_vset _ _ _ _ hi hj]
    by_cases q:j=i
    ·rw[if_pos q,if_pos q,Int.toNat_natCast]
    ·rw[if_neg q,if_neg q]
   rw[hw]
   by_cases q:j=i
   ·subst q;rw[if_neg (by omega),if_pos rfl,if_pos (by omega)]
   ·rw[if_neg q]
    by_cases r:i+1≤j
    ·rw[if_pos r,if_pos (by omega)]
    ·rw[if_neg r,if_neg (by omega)]
theorem or_eq {a b:Vector Int 4} (ha:U a) (hb:U b):∃ c,F145 5000 a b=some c∧U c∧∀ x,x<256→tb c x=(tb a x||tb b x):=by
 obtain⟨c,c1,c2,c3⟩:=or_l b hb 4 0 5000 a (by omega) (by omega) ha
 refine⟨c,c1,c2,fun x hx=>?_⟩
 unfold tb
 rw[c3 _ (by omega),if_pos (by omega),Nat.testBit_or]
theorem range_l (t:Nat) (ht:t<256):∀ (m i fuel:Nat) (a:Vector Int 4),t+1-i=m→m<fuel→i≤256→U a→
 ∃ c,F146_l1 5000 (t:Int) fuel a i=some c∧U c∧∀ x,x<256→tb c x=(tb a x||decide (i≤x∧x≤t))
 | 0,i,f+1,a,h,_,hi,ha=>by
   rw[F146_l1.eq_2,w64_id (n:=(t:Int)) (by omega) (by omega),if_neg (by omega),F146_c0]
   exact⟨a,rfl,ha,fun x hx=>by rw[decide_eq_false (by omega),Bool.or_false]⟩
 | m+1,i,f+1,a,h,hf,hi,ha=>by
   have hib:i<256:=by omega
   have e1:IntKind.i64.wrap ((i:Int).tdiv 64)=((i / 64:Nat):Int):=by
    have h1:(i:Int).tdiv 64=((i / 64:Nat):Int):=by rw[Int.tdiv_eq_ediv_of_nonneg (by omega)];omega
    rw[h1];have:=w64_id (n:=((i / 64:Nat):Int)) (by omega) (by omega);exact this
   have e2:u64 ((i:Int).tmod 64)=((i%64:Nat):Int):=by
    have h1:(i:Int).tmod 64=((i%64:Nat):Int):=by rw[Int.tmod_eq_emod_of_nonneg (by omega)];omega
    rw[h1,u64_eq];omega
   have g:0≤((i / 64:Nat):Int)∧((i / 64:Nat):Int)<4:=⟨by omega,by omega⟩
   obtain⟨p1,p2⟩:=put_bit ha hib _ rfl
   obtain⟨c,c1,c2,c3⟩:=range_l t ht m (i+1) f _ (by omega) (by omega) (by omega) p1
   rw[F146_l1.eq_2,w64_id (n:=(t:Int)) (by omega) (by omega),if_pos (by omega),e1,e2,if_pos g,if_pos (by omega),if_pos g,Int.toNat_natCast,w64_id (by omega) (by omega)]
   refine⟨c,by exact_mod_cast c1,c2,fun x hx=>?_⟩
   rw[c3 x hx,p2 x hx,Bool.or_assoc]
   congr 1
   rw[←Bool.decide_or,decide_eq_decide];omega
theorem range_eq {f t:Nat} (hf:f<256) (ht:t<256):∃ c,F146 5000 (f:Int) (t:Int)=some c∧U c∧∀ x,x<256→tb c x=decide (f≤x∧x≤t):=by
 obtain⟨c,c1,c2,c3⟩:=range_l t ht (t+1-f) f 5000 _ rfl (by omega) (by omega) U_zero
 unfold F146
 rw[w64_id (by omega) (by omega)]
 exact⟨c,c1,c2,fun x hx=>by rw[c3 x hx,tb_zero x hx,Bool.false_or]⟩
theorem bits_andnot_u64_nat (a b:Nat) (ha:a<18446744073709551616) (hb:b<18446744073709551616):
 ∃ c:Nat,bits .andNot .u64 (a:Int) (b:Int)=(c:Int)∧c<18446744073709551616∧∀ i,i<64→c.testBit i=(a.testBit i&& !b.testBit i):=by
 have h1:(BitVec.ofInt 64 (a:Int)).toNat=a:=by
  rw[BitVec.ofInt_natCast,BitVec.toNat_ofNat];exact Nat.mod_eq_of_lt (by omega)
 have h2:(BitVec.ofInt 64 (b:Int)).toNat=b:=by
  rw[BitVec.ofInt_natCast,BitVec.toNat_ofNat];exact Nat.mod_eq_of_lt (by omega)
 have hlt:(BitVec.ofInt 64 (a:Int) &&& ~~~ BitVec.ofInt 64 (b:Int)).toNat<18446744073709551616:=BitVec.isLt _
 refine⟨(BitVec.ofInt 64 (a:Int) &&& ~~~ BitVec.ofInt 64 (b:Int)).toNat,?_,hlt,fun i hi=>?_⟩
 ·show IntKind.u64.wrap ((BitVec.ofInt 64 (a:Int) &&& ~~~ BitVec.ofInt 64 (b:Int)).toNat:Int)=_
  rw[IntKind.wrap_u64];omega
 ·rw[BitVec.testBit_toNat,BitVec.getLsbD_and,BitVec.getLsbD_not, ←BitVec.testBit_toNat, ←BitVec.testBit_toNat,h1,h2,decide_eq_true hi,Bool.true_and]
theorem less_l (p1:Vector Int 4) (h1:U p1):∀ (m i fuel:Nat) (a:Vector Int 4),i+m=4→m<fuel→U a→
 ∃ c,F149_l1 5000 p1 fuel a i=some c∧U c∧∀ j:Nat,j<4→∀ t,t<64→(wd c j).testBit t=if i≤j then(wd a j).testBit t&& !(wd p1 j).testBit t else(wd a j).testBit t
 | 0,i,f+1,a,h,_,ha=>by
   rw[F149_l1.eq_2,if_neg (by omega),F149_c0]
   exact⟨a,rfl,ha,fun j hj t ht=>by rw[if_neg (by omega)]⟩
 | m+1,i,f+1,a,h,hf,ha=>by
   have hi:i<4:=by omega
   have g:0≤(i:Int)∧(i:Int)<4:=⟨by omega,by omega⟩
   obtain⟨e1,l1⟩:=wd_eq ha i hi
   obtain⟨e2,l2⟩:=wd_eq h1 i hi
   obtain⟨z,z1,z2,z3⟩:=bits_andnot_u64_nat _ _ l1 l2
   have ho:bits .andNot .u64 (vget a (i:Int)) (vget p1 (i:Int))=(z:Int):=by rw[e1,e2,z1]
   have hU:U (vset a (i:Int) (z:Int)):=by
    intro j hj
    rw[vget_vset _ _ _ _ hi hj]
    split
    ·omega
    ·exact ha j hj
   obtain⟨c,c1,c2,c3⟩:=less_l p1 h1 m (i+1) f (vset a (i:Int) (z:Int)) (by omega) (by omega) hU
   rw[F149_l1.eq_2,if_pos g.2,if_pos g,if_pos g,if_pos g,ho,w64_id (by omega) (by omega)]
   refine⟨c,by exact_mod_cast c1,c2,fun j hj t ht=>?_⟩
   rw[c3 j hj t ht]
   have hw:wd (vset a (i:Int) (z:Int)) j=if j=i then z else wd a j:=by
    unfold wd
    rw[vget_vset _ _ _ _ hi hj]
    by_cases q:j=i
    ·rw[if_pos q,if_pos q,Int.toNat_natCast]
    ·rw[if_neg q,if_neg q]
   rw[hw]
   by_cases q:j=i
   ·subst q;rw[if_neg (by omega),if_pos rfl,if_pos (by omega),z3 t ht]
   ·rw[if_neg q]
    by_cases r:i+1≤j
    ·rw[if_pos r,if_pos (by omega)]
    ·rw[if_neg r,if_neg (by omega)]
theorem less_eq {a b:Vector Int 4} (ha:U a) (hb:U b):∃ c,F149 5000 a b=some c∧U c∧∀ x,x<256→tb c x=(tb a x&& !tb b x):=by
 obtain⟨c,c1,c2,c3⟩:=less_l b hb 4 0 5000 a (by omega) (by omega) ha
 refine⟨c,c1,c2,fun x hx=>?_⟩
 unfold tb
 rw[c3 _ (by omega) _ (by omega),if_pos (by omega)]
theorem full_eq:∃ c,F142 5000=some c∧U c∧∀ x,x<256→tb c x=true:=by
 refine⟨_,rfl,?_⟩
 have hv:∀ j:Nat,j<4→vget ((vset (vset (vset (vset (Vector.replicate 4 (0:Int)) (0:Int) (18446744073709551615:Int)) (1:Int) (18446744073709551615:Int)) (2:Int) (18446744073709551615:Int)) (3:Int) (18446744073709551615:Int))) (j:Int)=18446744073709551615:=by
  intro j hj
  have:j=0∨j=1∨j=2∨j=3:=by omega
  rcases this with rfl|rfl|rfl|rfl<;>rfl
 constructor
 ·intro j hj;rw[hv j hj];omega
 ·intro x hx
  unfold tb wd
  rw[hv _ (by omega)]
  have:=Nat.testBit_two_pow_sub_one 64 (x%64)
  have h2:(18446744073709551615:Int).toNat=2 ^ 64-1:=rfl
  rw[h2,this];exact decide_eq_true (by omega)
theorem not_eq {a:Vector Int 4} (ha:U a):∃ c,F147 5000 a=some c∧U c∧∀ x,x<256→tb c x= !tb a x:=by
 obtain⟨d,d1,d2,d3⟩:=full_eq
 obtain⟨c,c1,c2,c3⟩:=less_eq d2 ha
 refine⟨c,?_,c2,fun x hx=>by rw[c3 x hx,d3 x hx,Bool.true_and]⟩
 unfold F147
 rw[d1,Option.bind_some,c1];rfl
theorem rof_l (L:List Bool):∀ (m i fuel:Nat) (a:Vector Int 4),i+m=min 256 L.length→m<fuel→U a→(∀ x,x<256→i≤x→tb a x=false)→
 ∃ c,F139_l2 5000 L fuel a i=some c∧U c∧∀ x,x<256→tb c x=(tb a x||(decide (i≤x)&&L.getD x false))
 | 0,i,f+1,a,h,_,ha,hz=>by
   rw[F139_l2.eq_2]
   have hb:(if(i:Int)<256 then some (decide ((i:Int)<(L.length:Int)))else some false)=some false:=by
    by_cases q:(i:Int)<256
    ·rw[if_pos q,decide_eq_false (by omega)]
    ·rw[if_neg q]
   rw[hb,Option.bind_some,if_neg (by decide),F139_c0]
   refine⟨a,rfl,ha,fun x hx=>?_⟩
   by_cases q:i≤x
   ·rw[decide_eq_true q,Bool.true_and,List.getD,List.getElem?_eq_none (by omega)];simp
   ·rw[decide_eq_false q];simp
 | m+1,i,f+1,a,h,hf,ha,hz=>by
   have hi:i<256:=by omega
   have hl:i<L.length:=by omega
   have g:0≤(i:Int)∧(i:Int)<(L.length:Int):=⟨by omega,by omega⟩
   have eb:lget L (i:Int)=L[i]:=by
    unfold lget;rw[show (i:Int).toNat=i by omega,List.getD,List.getElem?_eq_getElem hl];rfl
   have eg:L.getD i false=L[i]:=by rw[List.getD,List.getElem?_eq_getElem hl];rfl
   rw[F139_l2.eq_2,if_pos (show (i:Int)<256 by omega),decide_eq_true g.2,Option.bind_some,if_pos rfl,if_pos g,eb]
   by_cases q:L[i]=true
   ·obtain⟨e,l⟩:=wd_eq ha (i / 64) (by omega)
    have hsmall:wd a (i / 64)<2 ^ (i%64):=by
     apply Nat.lt_pow_two_of_testBit
     intro t ht
     by_cases r:t<64
     ·have:=hz (64*(i / 64)+t) (by omega) (by omega)
      unfold tb at this
      rwa [show (64*(i / 64)+t) / 64=i / 64 by omega,show (64*(i / 64)+t)%64=t by omega]at this
     ·have hp:18446744073709551616≤2 ^ t:=Nat.le_trans (by decide:18446744073709551616≤2 ^ 64) (Nat.pow_le_pow_right (by omega) (by omega))
      exact Nat.testBit_lt_two_pow (by omega)
    have hpw:(2:Nat) ^ (i%64)<18446744073709551616:=Nat.lt_of_lt_of_le (Nat.pow_lt_pow_right (by omega) (by omega:i%64<64)) (by decide:2 ^ 64≤18446744073709551616)
    obtain⟨o1,o2⟩:=or_bit l (i:=i%64) (by omega)
    have hsum:wd a (i / 64) ||| 2 ^ (i%64)=2 ^ (i%64)+wd a (i / 64):=by
     have:=Nat.two_pow_add_eq_or_of_lt hsmall 1
     rw[Nat.mul_one]at this
     rw[this,Nat.or_comm]
    have e5:IntKind.u64.wrap ((1:Int)*2 ^ (min (i%64) IntKind.u64.bits))=((2 ^ (i%64):Nat):Int):=by
     rw[show min (i%64) IntKind.u64.bits=i%64 by show min (i%64) 64=i%64;omega]
     have:=u64_eq (1*2 ^ (i%64))
     unfold u64 at this
     rw[this]
     have e3:((1:Int)*2 ^ (i%64))=((2 ^ (i%64):Nat):Int):=by simp
     rw[e3]
     generalize 2 ^ (i%64)=q at hpw⊢
     omega
    have e6:u64 (vget a ((i / 64:Nat):Int)+IntKind.u64.wrap ((1:Int)*2 ^ (min (i%64) IntKind.u64.bits)))=bits .or .u64 (vget a ((i / 64:Nat):Int)) (IntKind.u64.wrap ((1:Int)*2 ^ (min (i%64) IntKind.u64.bits))):=by
     rw[e,o1,e5,hsum,u64_eq]
     generalize 2 ^ (i%64)=q at *
     omega
    obtain⟨p1,p2⟩:=put_bit ha hi _ rfl
    obtain⟨c,c1,c2,c3⟩:=rof_l L m (i+1) f _ (by omega) (by omega) p1 (fun x hx hxi=>by rw[p2 x hx,hz x hx (by omega),decide_eq_false (by omega)];rfl)
    rw[if_pos q,ix_i64 i (by omega),ix_u64 i (by omega),if_pos ⟨by omega,by omega⟩,if_pos (by omega),if_pos ⟨by omega,by omega⟩,Int.toNat_natCast,e6]
    unfold F139_c1
    rw[w64_id (by omega) (by omega)]
    refine⟨c,by exact_mod_cast c1,c2,fun x hx=>?_⟩
    rw[c3 x hx,p2 x hx]
    by_cases r:x=i
    ·subst r
     rw[decide_eq_true rfl,decide_eq_true (Nat.le_refl _),eg,q];simp
    ·rw[decide_eq_false r,Bool.or_false]
     congr 2
     rw[decide_eq_decide];omega
   ·rw[if_neg q]
    unfold F139_c1
    rw[w64_id (by omega) (by omega)]
    obtain⟨c,c1,c2,c3⟩:=rof_l L m (i+1) f a (by omega) (by omega) ha (fun x hx hxi=>hz x hx (by omega))
    refine⟨c,by exact_mod_cast c1,c2,fun x hx=>?_⟩
    rw[c3 x hx]
    by_cases r:x=i
    ·subst r
     rw[decide_eq_false (by omega),decide_eq_true (Nat.le_refl _),eg,Bool.eq_false_iff.2 q];rfl
    ·congr 2
     rw[decide_eq_decide];omega
theorem rof_eq (L:List Bool):∃ c,F139 5000 L=some c∧U c∧∀ x,x<256→tb c x=L.getD x false:=by
 obtain⟨c,c1,c2,c3⟩:=rof_l L (min 256 L.length) 0 5000 _ (by omega) (by omega) U_zero (fun x hx _=>tb_zero x hx)
 refine⟨c,c1,c2,fun x hx=>?_⟩
 rw[c3 x hx,tb_zero x hx,decide_eq_true (Nat.zero_le _)];simp
def opb (o:Int) (s t:Bool):Bool:=if o=0 then s||t else if o=1 then s&&t else if o=2 then s&& !t else !s
theorem rput_l (o:Int) {a b:Vector Int 4} (ha:U a) (hb:U b):∀ (m i fuel:Nat) (acc:List Bool),i+m=256→m<fuel→acc.length=i→(∀ x,x<i→acc.getD x false=opb o (tb a x) (tb b x))→
 ∃ L:List Bool,F136_l2 5000 o a b fuel acc i=F136_c0 5000 L∧∀ x,x<256→L.getD x false=opb o (tb a x) (tb b x)
 | 0,i,f+1,acc,h,_,hl,hz=>by
   rw[F136_l2.eq_2,if_neg (by omega)]
   exact⟨acc,rfl,fun x hx=>hz x (by omega)⟩
 | m+1,i,f+1,acc,h,hf,hl,hz=>by
   have hi:i<256:=by omega
   have next:∀ v,v=opb o (tb a i) (tb b i)→∃ L:List Bool,F136_c1 5000 (F136_l2 5000 o a b f) (i:Int) (acc++[v])=F136_c0 5000 L∧∀ x,x<256→L.getD x false=opb o (tb a x) (tb b x):=by
    intro v hv
    unfold F136_c1
    rw[w64_id (by omega) (by omega)]
    have:=rput_l o ha hb m (i+1) f (acc++[v]) (by omega) (by omega) (by simp;omega) (fun x hx=>by
     by_cases q:x<i
     ·rw[List.getD,List.getElem?_append_left (by omega)]
      have:=hz x q
      rw[List.getD]at this
      exact this
     ·have e:x=i:=by omega
      subst e
      rw[List.getD,List.getElem?_append_right (by omega),hl,Nat.sub_self, ←hv];rfl)
    exact_mod_cast this
   have hlen:∀ v:Bool,(acc++[v]).length*1≤140737488355328:=by intro v;simp;omega
   rw[F136_l2.eq_2,if_pos (by omega),rhas_eq ha hi,Option.bind_some,rhas_eq hb hi,Option.bind_some]
   by_cases o0:o=0
   ·rw[if_pos o0]
    cases q:tb a i with
    | true=>rw[if_pos rfl,if_pos (hlen _)];exact next _ (by unfold opb;rw[if_pos o0,q];rfl)
    | false=>rw[if_neg (by decide),if_pos (hlen _)];exact next _ (by unfold opb;rw[if_pos o0,q];rfl)
   ·rw[if_neg o0]
    by_cases o1:o=1
    ·rw[if_pos o1]
     cases q:tb a i with
     | true=>rw[if_pos rfl,if_pos (hlen _)];exact next _ (by unfold opb;rw[if_neg o0,if_pos o1,q];rfl)
     | false=>rw[if_neg (by decide),if_pos (hlen _)];exact next _ (by unfold opb;rw[if_neg o0,if_pos o1,q];rfl)
    ·rw[if_neg o1]
     by_cases o2:o=2
     ·rw[if_pos o2]
      cases q:tb a i with
      | true=>rw[if_pos rfl,if_pos (hlen _)];exact next _ (by unfold opb;rw[if_neg o0,if_neg o1,if_pos o2,q];rfl)
      | false=>rw[if_neg (by decide),if_pos (hlen _)];exact next _ (by unfold opb;rw[if_neg o0,if_neg o1,if_pos o2,q];rfl)
     ·rw[if_neg o2,if_pos (hlen _)]
      exact next _ (by unfold opb;rw[if_neg o0,if_neg o1,if_neg o2])
theorem rput_eq (o:Int) {a b:Vector Int 4} (ha:U a) (hb:U b):∃ c,F136 5000 o a b=some c∧U c∧∀ x,x<256→tb c x=opb o (tb a x) (tb b x):=by
 obtain⟨L,l1,l2⟩:=rput_l o ha hb 256 0 5000 [] (by omega) (by omega) rfl (fun x hx=>by omega)
 obtain⟨c,c1,c2,c3⟩:=rof_eq L
 refine⟨c,?_,c2,fun x hx=>by rw[c3 x hx,l2 x hx]⟩
 have e:F136 5000 o a b=F136_l2 5000 o a b 5000 [] ((0:Nat):Int):=rfl
 rw[e,l1,F136_c0,c1];rfl
theorem of_l (l:List Int) (hl:∀ b∈l,0≤b∧b≤255) (hz:l.length≤1000):∀ (m i fuel:Nat) (a:Vector Int 4),i+m=l.length→m<fuel→U a→
 ∃ c,F61_l1 5000 l fuel a i=some c∧U c∧∀ x,x<256→tb c x=(tb a x||decide ((x:Int)∈l.drop i))
 | 0,i,f+1,a,h,_,ha=>by
   rw[F61_l1.eq_2,if_neg (by omega),F61_c0]
   exact⟨a,rfl,ha,fun x hx=>by rw[List.drop_of_length_le (by omega)];simp⟩
 | m+1,i,f+1,a,h,hf,ha=>by
   have hi:i<l.length:=by omega
   have g:0≤(i:Int)∧(i:Int)<(l.length:Int):=⟨by omega,by omega⟩
   have eb:lget l (i:Int)=l[i]:=by
    unfold lget;rw[show (i:Int).toNat=i by omega,List.getD,List.getElem?_eq_getElem hi];rfl
   have hb:=hl l[i] (List.getElem_mem hi)
   obtain⟨b,eb2⟩:∃ b:Nat,l[i]=b:=⟨l[i].toNat,by omega⟩
   have hb2:b<256:=by omega
   obtain⟨p1,p2⟩:=put_bit ha hb2 _ rfl
   obtain⟨c,c1,c2,c3⟩:=of_l l hl hz m (i+1) f _ (by omega) (by omega) p1
   rw[F61_l1.eq_2,if_pos g.2,if_pos g,eb,eb2,ix_u8 b hb2,tmod64,if_pos ⟨by omega,by omega⟩,if_pos (by omega),if_pos ⟨by omega,by omega⟩,Int.toNat_natCast,w64_id (by omega) (by omega)]
   refine⟨c,by exact_mod_cast c1,c2,fun x hx=>?_⟩
   rw[c3 x hx,p2 x hx,List.drop_eq_getElem_cons hi,eb2,Bool.or_assoc]
   congr 1
   rw[←Bool.decide_or,decide_eq_decide,List.mem_cons]
   constructor
   ·rintro (h|h)
    ·exact .inl (by omega)
    ·exact .inr h
   ·rintro (h|h)
    ·exact .inl (by omega)
    ·exact .inr h
abbrev KK:Nat:=5000
def VZ:Vector Int 4:=Vector.replicate 4 (0:Int)
inductive Rx where
 | non
 | one (s:Vector Int 4)
 | cat (a b:Rx)
 | alt (a b:Rx)
 | un (k:Int) (a:Rx)
def ser:Rx→List S131
 | .non=>[S131.mk 0 VZ]
 | .one s=>[S131.mk 1 s]
 | .cat a b=>ser a++ser b++[S131.mk 2 VZ]
 | .alt a b=>ser a++ser b++[S131.mk 3 VZ]
 | .un k a=>ser a++[S131.mk k VZ]
def ROK:Rx→Prop
 | .non=>True
 | .one s=>U s∧s≠VZ
 | .cat a b=>ROK a∧ROK b
 | .alt a b=>ROK a∧ROK b
 | .un k a=>4≤k∧k≤6∧ROK a
theorem ser_pos:∀ t:Rx,0<(ser t).length
 | .non=>by simp[ser]
 | .one _=>by simp[ser]
 | .cat a b=>by simp[ser];omega
 | .alt a b=>by simp[ser];omega
 | .un k a=>by simp[ser]
def tk (k:Int):Int:=if k=0∨k=1 then 0 else if k=2∨k=3 then 2 else if k=4∨k=5∨k=6 then 1 else -1
theorem rtakes_eq (K:Nat) (k:Int):F110 K k=some (tk k):=by
 unfold F110 tk
 by_cases a:k<0
 ·rw[if_pos a,Option.bind_some,if_pos rfl,if_neg (by omega),if_neg (by omega),if_neg (by omega)]
 by_cases b:(6:Int)<k
 ·rw[if_neg a,Option.bind_some,if_pos (by simpa using b),if_neg (by omega),if_neg (by omega),if_neg (by omega)]
 rw[if_neg a,Option.bind_some,if_neg (by simpa using b),if_pos ⟨by omega,by simp;omega⟩]
 have:k=0∨k=1∨k=2∨k=3∨k=4∨k=5∨k=6:=by omega
 rcases this with rfl|rfl|rfl|rfl|rfl|rfl|rfl<;>rfl
theorem pget (l:List S131) (i:Nat) (h:i<l.length):lget l (i:Int)=l[i]:=by simp[lget,List.getD,List.getElem?_eq_getElem h]
theorem pget_at (pre:List S131) (p:S131) (post:List S131):lget (pre++p::post) (pre.length:Int)=p:=by
 rw[pget _ _ (by simp)];simp
theorem tk_le (k:Int): -1≤tk k∧tk k≤2:=by unfold tk;repeat (first|omega|split)
theorem start_scan (p0:List S131) (hz:p0.length≤1000000):∀ (t:Rx),ROK t→∀ (pre post:List S131) (need:Int) (f:Nat),p0=pre++ser t++post→1≤need→need≤1000000000 - (ser t).length→
 F111_l1 KK p0 (f+(ser t).length) need ((pre.length:Int)+(ser t).length-1)=(if need=1 then some (pre.length:Int)else F111_l1 KK p0 f (need-1) ((pre.length:Int) -1)):=by
 have back:∀ (pre:List S131) (p:S131) (post:List S131) (need:Int) (f:Nat),p0=pre++p::post→1≤need→need≤1000000000→0≤tk p.f0→
  F111_l1 KK p0 (f+1) need (pre.length:Int)=(if need-1+tk p.f0=0 then some (pre.length:Int)else F111_l1 KK p0 f (need-1+tk p.f0) ((pre.length:Int) -1)):=by
  intro pre p post need f e h1 h2 h3
  have hl:pre.length<p0.length:=by rw[e];simp
  have htk:=tk_le p.f0
  have hg:lget p0 (pre.length:Int)=p:=by rw[e];exact pget_at pre p post
  have g0:(0:Int)≤(pre.length:Int):=by omega
  have g1:0≤(pre.length:Int)∧(pre.length:Int)<(p0.length:Int):=⟨by omega,by omega⟩
  rw[F111_l1.eq_2,if_pos g0,if_pos g1,hg,rtakes_eq,Option.bind_some,w6t (x:=need-1) (by omega) (by omega),w6t (x:=need-1+tk p.f0) (by omega) (by omega),w6t (x:=(pre.length:Int) -1) (by omega) (by omega)]
 intro t
 have two:∀ (k:Int) (a b:Rx),tk k=2→(∀ (pre post:List S131) (need:Int) (f:Nat),p0=pre++ser a++post→1≤need→need≤1000000000 - (ser a).length→
  F111_l1 KK p0 (f+(ser a).length) need ((pre.length:Int)+(ser a).length-1)=(if need=1 then some (pre.length:Int)else F111_l1 KK p0 f (need-1) ((pre.length:Int) -1)))→
  (∀ (pre post:List S131) (need:Int) (f:Nat),p0=pre++ser b++post→1≤need→need≤1000000000 - (ser b).length→
  F111_l1 KK p0 (f+(ser b).length) need ((pre.length:Int)+(ser b).length-1)=(if need=1 then some (pre.length:Int)else F111_l1 KK p0 f (need-1) ((pre.length:Int) -1)))→
  ∀ (pre post:List S131) (need:Int) (f:Nat),p0=pre++(ser a++ser b++[S131.mk k VZ])++post→1≤need→need≤1000000000 - (ser a++ser b++[S131.mk k VZ]).length→
  F111_l1 KK p0 (f+(ser a++ser b++[S131.mk k VZ]).length) need ((pre.length:Int)+(ser a++ser b++[S131.mk k VZ]).length-1)=(if need=1 then some (pre.length:Int)else F111_l1 KK p0 f (need-1) ((pre.length:Int) -1)):=by
  intro k a b hk iha ihb pre post need f e h1 h2
  have hla:=ser_pos a
  have hlb:=ser_pos b
  have hlen:(ser a++ser b++[S131.mk k VZ]).length=(ser a).length+(ser b).length+1:=by simp only[List.length_append,List.length_cons,List.length_nil]
  rw[hlen]at h2⊢
  have b1:=back (pre++ser a++ser b) (S131.mk k VZ) post need (f+(ser a).length+(ser b).length) (by rw[e];simp) h1 (by omega) (by rw[hk];omega)
  rw[hk,if_neg (by omega)]at b1
  have b2:=ihb (pre++ser a) (S131.mk k VZ::post) (need-1+2) (f+(ser a).length) (by rw[e];simp) (by omega) (by omega)
  rw[if_neg (by omega)]at b2
  have b3:=iha pre (ser b++S131.mk k VZ::post) need f (by rw[e];simp) h1 (by omega)
  have i1:((pre++ser a++ser b).length:Int)=(pre.length:Int)+(((ser a).length+(ser b).length+1:Nat):Int) -1:=by simp only[List.length_append,List.length_cons,List.length_nil];omega
  have i2:((pre++ser a++ser b).length:Int) -1=((pre++ser a).length:Int)+(ser b).length-1:=by simp only[List.length_append,List.length_cons,List.length_nil];omega
  have i3:((pre++ser a).length:Int) -1=(pre.length:Int)+(ser a).length-1:=by simp only[List.length_append,List.length_cons,List.length_nil];omega
  have i4:need-1+2-1=need:=by omega
  rw[i2]at b1
  rw[i1]at b1
  rw[i3,i4]at b2
  rw[show f+((ser a).length+(ser b).length+1)=f+(ser a).length+(ser b).length+1 by omega]
  exact b1.trans (b2.trans b3)
 induction t with
 | non=>
   intro _ pre post need f e h1 h2
   have:=back pre (S131.mk 0 VZ) post need f (by rw[e];simp[ser]) h1 (by simp[ser]at h2;omega) (by decide)
   have e0:need-1+tk 0=need-1:=by rw[show tk 0=0 from rfl];omega
   rw[e0]at this
   have i1:(pre.length:Int)+((ser .non).length:Int) -1=(pre.length:Int):=by simp[ser]
   rw[i1]
   by_cases q:need=1
   ·rw[if_pos q];rw[if_pos (by omega)]at this;exact this
   ·rw[if_neg q];rw[if_neg (by omega)]at this;exact this
 | one s=>
   intro _ pre post need f e h1 h2
   have:=back pre (S131.mk 1 s) post need f (by rw[e];simp[ser]) h1 (by simp[ser]at h2;omega) (by show 0≤tk 1;decide)
   have e0:need-1+tk (S131.mk 1 s).f0=need-1:=by rw[show tk (S131.mk 1 s).f0=0 from rfl];omega
   rw[e0]at this
   have i1:(pre.length:Int)+((ser (.one s)).length:Int) -1=(pre.length:Int):=by simp[ser]
   rw[i1]
   by_cases q:need=1
   ·rw[if_pos q];rw[if_pos (by omega)]at this;exact this
   ·rw[if_neg q];rw[if_neg (by omega)]at this;exact this
 | cat a b iha ihb=>
   intro hok pre post need f e h1 h2
   exact two 2 a b rfl (iha hok.1) (ihb hok.2) pre post need f e h1 h2
 | alt a b iha ihb=>
   intro hok pre post need f e h1 h2
   exact two 3 a b rfl (iha hok.1) (ihb hok.2) pre post need f e h1 h2
 | un k a iha=>
   intro hok pre post need f e h1 h2
   have hk:tk k=1:=by
    have:k=4∨k=5∨k=6:=by have:=hok.1;have:=hok.2.1;omega
    rcases this with rfl|rfl|rfl<;>rfl
   have hla:=ser_pos a
   have hlen:(ser (.un k a)).length=(ser a).length+1:=by simp[ser]
   rw[hlen]at h2⊢
   have b1:=back (pre++ser a) (S131.mk k VZ) post need (f+(ser a).length) (by rw[e];simp[ser]) h1 (by omega) (by show 0≤tk k;omega)
   rw[show tk (S131.mk k VZ).f0=1 from hk,if_neg (by omega),show need-1+1=need by omega]at b1
   have b3:=iha hok.2.2 pre (S131.mk k VZ::post) need f (by rw[e];simp[ser]) h1 (by omega)
   have i1:((pre++ser a).length:Int)=(pre.length:Int)+(((ser a).length+1:Nat):Int) -1:=by simp only[List.length_append,List.length_cons,List.length_nil];omega
   have i3:((pre++ser a).length:Int) -1=(pre.length:Int)+(ser a).length-1:=by simp only[List.length_append,List.length_cons,List.length_nil];omega
   rw[i3]at b1
   rw[i1]at b1
   rw[show f+((ser a).length+1)=f+(ser a).length+1 by omega]
   exact b1.trans b3
theorem start_eq {p0:List S131} (hz:p0.length≤4000) {t:Rx} (ht:ROK t) {pre post:List S131} (e:p0=pre++ser t++post):
 F111 KK p0 ((pre.length:Int)+(ser t).length-1)=some (pre.length:Int):=by
 have hl:(ser t).length≤p0.length:=by rw[e];simp;omega
 have:=start_scan p0 (by omega) t ht pre post 1 (KK - (ser t).length) e (by omega) (by omega)
 rw[if_pos rfl,show KK - (ser t).length+(ser t).length=KK by show 5000-_+_=5000;omega]at this
 exact this
def parts:Rx→List (List S131)
 | .cat a b=>[ser a,ser b]
 | .alt a b=>[ser a,ser b]
 | .un _ a=>[ser a]
 | _=>[]
def kind:Rx→Int
 | .non=>0
 | .one _=>1
 | .cat _ _=>2
 | .alt _ _=>3
 | .un k _=>k
theorem last_ix {t:Rx} (hz:(ser t).length≤4000):w64 (((ser t).length:Int) -1)=(((ser t).length-1:Nat):Int):=by
 have:=ser_pos t
 rw[w6t (by omega) (by omega)];omega
def setOf:Rx→Vector Int 4
 | .one s=>s
 | _=>VZ
theorem last_get:∀ (t:Rx),lget (ser t) (((ser t).length-1:Nat):Int)=S131.mk (kind t) (setOf t)
 | .non=>rfl
 | .one s=>rfl
 | .cat a b=>by
   have:(ser (.cat a b)).length-1=(ser a++ser b).length:=by simp[ser]
   rw[this];exact pget_at (ser a++ser b) _ []
 | .alt a b=>by
   have:(ser (.alt a b)).length-1=(ser a++ser b).length:=by simp[ser]
   rw[this];exact pget_at (ser a++ser b) _ []
 | .un k a=>by
   have:(ser (.un k a)).length-1=(ser a).length:=by simp[ser]
   rw[this];exact pget_at (ser a) _ []
theorem lcut_mid (a b c:List S131):lcut (a++b++c) (a.length:Int) ((a.length+b.length:Nat):Int)=b:=by
 unfold lcut
 rw[Int.toNat_natCast,Int.toNat_natCast,List.take_append_of_le_length (by simp),List.take_of_length_le (by simp),List.drop_left]
theorem rparts_eq {t:Rx} (ht:ROK t) (hz:(ser t).length≤4000):F84 KK (ser t)=some (parts t):=by
 have hp:=ser_pos t
 have hx:=last_ix hz
 unfold F84
 rw[hx,if_pos ⟨by omega,by omega⟩,last_get,rtakes_eq,Option.bind_some]
 have stop:∀ (f:Nat) (acc:List (List S131)) (x:Int),F84_l1 KK (ser t) (f+1) acc x 0=some acc:=by
  intro f acc x
  rw[F84_l1.eq_2,if_neg (by omega),F84_c0]
 have go:∀ (f:Nat) (acc:List (List S131)) (n:Int) (pre post:List S131) (a:Rx),ROK a→ser t=pre++ser a++post→acc.length≤10→0<n→n≤2→
  F84_l1 KK (ser t) (f+1) acc ((pre.length+(ser a).length:Nat):Int) n=F84_l1 KK (ser t) f ([ser a]++acc) (pre.length:Int) (n-1):=by
  intro f acc n pre post a ha e hl h0 h2
  have hlen:(ser t).length=pre.length+(ser a).length+post.length:=by rw[e];simp;omega
  have hla:=ser_pos a
  have hs:=start_eq (p0:=ser t) hz ha e
  have c2:lcut (ser t) (pre.length:Int) ((pre.length+(ser a).length:Nat):Int)=ser a:=by rw[e];exact lcut_mid pre (ser a) _
  rw[F84_l1.eq_2,if_pos h0,w6t (x:=((pre.length+(ser a).length:Nat):Int) -1) (by omega) (by omega),show ((pre.length+(ser a).length:Nat):Int) -1=(pre.length:Int)+(ser a).length-1 by omega,hs,Option.bind_some,if_pos ⟨by omega,by omega,by omega⟩,c2,if_pos (by simp;omega),w6t (x:=n-1) (by omega) (by omega)]
 have two:∀ (k:Int) (a b:Rx),ROK a→ROK b→ser t=ser a++ser b++[S131.mk k VZ]→F84_l1 KK (ser t) KK [] (((ser t).length-1:Nat):Int) 2=some [ser a,ser b]:=by
  intro k a b ha hb e
  have hlen:(ser t).length-1=(ser a).length+(ser b).length:=by rw[e];simp
  rw[hlen]
  have g1:=go 4999 [] 2 (ser a) [S131.mk k VZ] b hb (by rw[e]) (by simp) (by omega) (by omega)
  have g2:=go 4998 [ser b] (2-1) [] (ser b++[S131.mk k VZ]) a ha (by rw[e];simp) (by simp) (by omega) (by omega)
  refine g1.trans ?_
  rw[List.append_nil]
  have i0:((([]:List S131).length+(ser a).length:Nat):Int)=((ser a).length:Int):=by simp
  rw[i0]at g2
  refine g2.trans ?_
  exact stop 4997 _ _
 cases t with
 | non=>exact stop 4999 _ _
 | one s=>exact stop 4999 _ _
 | cat a b=>exact two 2 a b ht.1 ht.2 rfl
 | alt a b=>exact two 3 a b ht.1 ht.2 rfl
 | un k a=>
   have hk:tk k=1:=by
    have:k=4∨k=5∨k=6:=by have:=ht.1;have:=ht.2.1;omega
    rcases this with rfl|rfl|rfl<;>rfl
   show F84_l1 KK (ser (.un k a)) KK [] (((ser (.un k a)).length-1:Nat):Int) (tk k)=_
   have hlen:(ser (.un k a)).length-1=([]:List S131).length+(ser a).length:=by simp[ser]
   rw[hk,hlen]
   refine(go 4999 [] 1 [] [S131.mk k VZ] a ht.2.2 (by simp[ser]) (by simp) (by omega) (by omega)).trans ?_
   exact stop 4998 _ _
end Go.Avl.T7
namespace Go.Avl.T7
open Go Go.RowKit Go.Proofs Go.Avl
theorem lget_lt {α:Type} [Inhabited α] (l:List α) (i:Nat) (h:i<l.length):lget l (i:Int)=l[i]:=by simp[lget,List.getD,List.getElem?_eq_getElem h]
end Go.Avl.T7
namespace Go.Avl.T7
open Go Go.RowKit Go.Proofs Go.Avl
set_option linter.all false
set_option maxRecDepth 10000
theorem lset_len {α:Type} (l:List α) (i:Int) (x:α):(lset l i x).length=l.length:=by simp[lset]
def NN (n:S121):Nat:=n.f0.toNat
def edB (n:S121) (e:S152):Bool:=decide (0≤e.f0∧e.f0<n.f0∧0≤e.f1∧e.f1<n.f0)
def rt0 (n:S121):Bool:=decide (0≤n.f2∧n.f2<n.f0∧0≤n.f3∧n.f3<n.f0)
def rtB (n:S121):Bool:=rt0 n&&n.f1.all (edB n)
theorem right_l (n:S121) (hl:n.f1.length≤1000):∀ (d i m:Nat),i+d=n.f1.length→d<m→F95_l1 5000 n m (i:Int)=some ((n.f1.drop i).all (edB n))
 | 0,i,m+1,hi,_=>by
   rw[F95_l1.eq_2,if_neg (by omega),F95_c0,List.drop_of_length_le (by omega)];simp
 | d+1,i,m+1,hi,hm=>by
   have hi':i<n.f1.length:=by omega
   have g:0≤(i:Int)∧(i:Int)<(n.f1.length:Int):=⟨by omega,by omega⟩
   have ih:=right_l n hl d (i+1) m (by omega) (by omega)
   rw[F95_l1.eq_2,if_pos g.2,if_pos g,lget_lt _ i hi',List.drop_eq_getElem_cons hi',w64_id (by omega) (by omega),show (i:Int)+1=((i+1:Nat):Int)by omega,ih]
   have key:(if n.f1[i].f0<(0:Int)then some true else if n.f0≤n.f1[i].f0 then some true else if n.f1[i].f1<(0:Int)then some true else some (decide (n.f0≤n.f1[i].f1)))=some (!edB n n.f1[i]):=by
    unfold edB
    by_cases a1:n.f1[i].f0<(0:Int)
    ·rw[if_pos a1,decide_eq_false (by omega)];rfl
    ·rw[if_neg a1]
     by_cases a2:n.f0≤n.f1[i].f0
     ·rw[if_pos a2,decide_eq_false (by omega)];rfl
     ·rw[if_neg a2]
      by_cases a3:n.f1[i].f1<(0:Int)
      ·rw[if_pos a3,decide_eq_false (by omega)];rfl
      ·rw[if_neg a3]
       by_cases a4:n.f0≤n.f1[i].f1
       ·rw[decide_eq_true a4,decide_eq_false (by omega)];rfl
       ·rw[decide_eq_false a4,decide_eq_true (by omega)];rfl
   rw[key,Option.bind_some,List.all_cons]
   cases edB n n.f1[i]
   ·rw[if_pos (by decide)];rfl
   ·rw[if_neg (by decide),Bool.true_and]
theorem right_eq (n:S121) (hl:n.f1.length≤1000):F95 5000 n=some (rtB n):=by
 unfold F95 rtB rt0
 have key:(if n.f2<(0:Int)then some true else if n.f0≤n.f2 then some true else if n.f3<(0:Int)then some true else some (decide (n.f0≤n.f3)))=some (!decide (0≤n.f2∧n.f2<n.f0∧0≤n.f3∧n.f3<n.f0)):=by
  by_cases a1:n.f2<(0:Int)
  ·rw[if_pos a1,decide_eq_false (by omega)];rfl
  ·rw[if_neg a1]
   by_cases a2:n.f0≤n.f2
   ·rw[if_pos a2,decide_eq_false (by omega)];rfl
   ·rw[if_neg a2]
    by_cases a3:n.f3<(0:Int)
    ·rw[if_pos a3,decide_eq_false (by omega)];rfl
    ·rw[if_neg a3]
     by_cases a4:n.f0≤n.f3
     ·rw[decide_eq_true a4,decide_eq_false (by omega)];rfl
     ·rw[decide_eq_false a4,decide_eq_true (by omega)];rfl
 have:=right_l n hl n.f1.length 0 5000 (by omega) (by omega)
 rw[key,Option.bind_some]
 cases decide (0≤n.f2∧n.f2<n.f0∧0≤n.f3∧n.f3<n.f0)
 ·rfl
 ·simpa using this
structure Rt (n:S121):Prop where
 first:0≤n.f2∧n.f2<n.f0
 last:0≤n.f3∧n.f3<n.f0
 ed:∀ e∈n.f1,0≤e.f0∧e.f0<n.f0∧0≤e.f1∧e.f1<n.f0
 n1:n.f0≤1000
 n2:n.f1.length≤1000
 u:∀ e∈n.f1,U e.f2
theorem Rt.nn {n:S121} (h:Rt n):((NN n:Nat):Int)=n.f0:=by have:=h.first;unfold NN;omega
theorem Rt.rt {n:S121} (h:Rt n):rtB n=true:=by
 simp only[rtB,rt0,Bool.and_eq_true,decide_eq_true_eq,List.all_eq_true,edB]
 exact⟨⟨h.first.1,h.first.2,h.last⟩,h.ed⟩
def st1 (s:List Bool×Bool) (e:S152):List Bool×Bool:=if e.f3=true∧lget s.1 e.f0=true∧lget s.1 e.f1=false then(lset s.1 e.f1 true,true)else s
def pass (l:List S152) (s:List Bool×Bool):List Bool×Bool:=l.foldl st1 s
theorem st1_len (s:List Bool×Bool) (e:S152):(st1 s e).1.length=s.1.length:=by
 unfold st1;split
 ·exact lset_len _ _ _
 ·rfl
theorem pass_len:∀ (l:List S152) (s:List Bool×Bool),(pass l s).1.length=s.1.length
 | [],s=>rfl
 | e::l,s=>by
   show (pass l (st1 s e)).1.length=_
   rw[pass_len l,st1_len]
theorem guard22 {x:List Bool} {e:S152} (N:Nat) (hx:x.length=N) (he:0≤e.f0∧e.f0<(N:Int)∧0≤e.f1∧e.f1<(N:Int)):
 (if e.f3=true then if 0≤e.f0∧e.f0<(x.length:Int)then if(lget x e.f0)=true then if 0≤e.f1∧e.f1<(x.length:Int)then some (!(lget x e.f1))else none else some false else none else some false)=some (decide (e.f3=true∧lget x e.f0=true∧lget x e.f1=false)):=by
 have g0:0≤e.f0∧e.f0<(x.length:Int):=⟨he.1,by omega⟩
 have g1:0≤e.f1∧e.f1<(x.length:Int):=⟨he.2.2.1,by omega⟩
 rw[if_pos g0,if_pos g1]
 cases e.f3<;>cases lget x e.f0<;>cases lget x e.f1<;>simp
theorem close_l2 {n:S121} (h:Rt n) (rec9:List Bool→Bool→Option (List Bool)):∀ (d i m:Nat) (x:List Bool) (b:Bool),i+d=n.f1.length→d<m→x.length=NN n→
 F99_l2 5000 rec9 n m x b (i:Int)=rec9 (pass (n.f1.drop i) (x,b)).1 (pass (n.f1.drop i) (x,b)).2
 | 0,i,m+1,x,b,hi,_,hx=>by
   rw[F99_l2.eq_2,if_neg (by omega),List.drop_of_length_le (by omega)];rfl
 | d+1,i,m+1,x,b,hi,hm,hx=>by
   have hi':i<n.f1.length:=by omega
   have g:0≤(i:Int)∧(i:Int)<(n.f1.length:Int):=⟨by omega,by omega⟩
   have he:=h.ed n.f1[i] (List.getElem_mem hi')
   have hN:=h.n2
   have hf:=h.first
   have hnn:=h.nn
   rw[F99_l2.eq_2,if_pos g.2,if_pos g,lget_lt _ i hi',List.drop_eq_getElem_cons hi',guard22 (NN n) hx ⟨he.1,by have:=he.2.1;omega,he.2.2.1,by have:=he.2.2.2;omega⟩,Option.bind_some]
   show _=rec9 (pass (n.f1.drop (i+1)) (st1 (x,b) n.f1[i])).1 (pass (n.f1.drop (i+1)) (st1 (x,b) n.f1[i])).2
   unfold st1
   by_cases q:n.f1[i].f3=true∧lget x n.f1[i].f0=true∧lget x n.f1[i].f1=false
   ·rw[if_pos (decide_eq_true q),if_pos q,if_pos ⟨he.2.2.1,by have:=he.2.2.2;omega⟩,F99_c1,w64_id (by omega) (by omega)]
    have ih:=close_l2 h rec9 d (i+1) m (lset x n.f1[i].f1 true) true (by omega) (by omega) (by rw[lset_len,hx])
    exact_mod_cast ih
   ·rw[if_neg (by simpa using q),if_neg q,F99_c1,w64_id (by omega) (by omega)]
    have ih:=close_l2 h rec9 d (i+1) m x b (by omega) (by omega) hx
    exact_mod_cast ih
def cnt (x:List Bool):Nat:=x.count true
theorem cnt_le (x:List Bool):cnt x≤x.length:=List.count_le_length
theorem cnt_set:∀ (x:List Bool) (i:Nat),i<x.length→x[i]? =some false→cnt (x.set i true)=cnt x+1
 | b::x,0,_,h=>by simp at h;subst h;simp[cnt]
 | b::x,i+1,hi,h=>by
   have:=cnt_set x i (by simpa using hi) (by simpa using h)
   simp only[cnt,List.set_cons_succ,List.count_cons]at this⊢
   omega
theorem st1_cnt (s:List Bool×Bool) (e:S152) (he:0≤e.f1∧e.f1<(s.1.length:Int)):st1 s e=s∨((st1 s e).2=true∧cnt (st1 s e).1=cnt s.1+1):=by
 unfold st1
 split
 ·rename_i q
  refine .inr ⟨rfl,?_⟩
  have hi:e.f1.toNat<s.1.length:=by omega
  refine cnt_set s.1 e.f1.toNat hi ?_
  have:=q.2.2
  unfold lget at this
  rw[List.getD,List.getElem?_eq_getElem hi]at this
  rw[List.getElem?_eq_getElem hi];simpa using this
 ·exact .inl rfl
theorem pass_cnt (N:Int):∀ (l:List S152) (s:List Bool×Bool),(∀ e∈l,0≤e.f1∧e.f1<N)→(s.1.length:Int)=N→pass l s=s∨((pass l s).2=true∧cnt s.1<cnt (pass l s).1)
 | [],s,_,_=>.inl rfl
 | e::l,s,h,hs=>by
   have ih:=pass_cnt N l (st1 s e) (fun e' h'=>h e' (by simp[h'])) (by rw[st1_len];exact hs)
   show pass l (st1 s e)=s∨((pass l (st1 s e)).2=true∧cnt s.1<cnt (pass l (st1 s e)).1)
   rcases st1_cnt s e (by rw[hs];exact h e (by simp))with q|⟨q1,q2⟩
   ·rw[q]at ih⊢;exact ih
   ·rcases ih with r|⟨r1,r2⟩
    ·rw[r];exact .inr ⟨q1,by omega⟩
    ·exact .inr ⟨r1,by omega⟩
def cl (l:List S152):Nat→List Bool→List Bool
 | 0,x=>x
 | k+1,x=>if(pass l (x,false)).2=true then cl l k (pass l (x,false)).1 else(pass l (x,false)).1
theorem cl_len (l:List S152):∀ (k:Nat) (x:List Bool),(cl l k x).length=x.length
 | 0,_=>rfl
 | k+1,x=>by
   rw[cl];split
   ·rw[cl_len l k,pass_len]
   ·rw[pass_len]
theorem cl_more {n:S121} (h:Rt n):∀ (j:Nat) (x:List Bool),x.length=NN n→NN n-cnt x<j→cl n.f1 j x=cl n.f1 (j+1) x
 | 0,x,_,h=>by omega
 | j+1,x,hx,hj=>by
   rw[cl,cl]
   split
   ·rename_i q
    have hp:=pass_len n.f1 (x,false)
    have hle:=cnt_le (pass n.f1 (x,false)).1
    have hf:=h.first
    have hnn:=h.nn
    rcases pass_cnt n.f0 n.f1 (x,false) (fun e he=>⟨(h.ed e he).2.2.1,(h.ed e he).2.2.2⟩) (by show (x.length:Int)=_;omega)with r|⟨_,r⟩
    ·rw[r]at q;cases q
    ·have r':cnt x<cnt (pass n.f1 (x,false)).1:=r
     have hp':(pass n.f1 (x,false)).1.length=x.length:=hp
     exact cl_more h j _ (hp'.trans hx) (by rw[hp']at hle;omega)
   ·rfl
def CL (n:S121) (x:List Bool):List Bool:=cl n.f1 (NN n+1) x
theorem CL_len (n:S121) (x:List Bool):(CL n x).length=x.length:=cl_len _ _ _
theorem cl_CL {n:S121} (h:Rt n) {x:List Bool} (hx:x.length=NN n):∀ {j:Nat},NN n-cnt x<j→cl n.f1 j x=CL n x:=by
 have up:∀ (d j:Nat),NN n-cnt x<j→cl n.f1 j x=cl n.f1 (j+d) x:=by
  intro d
  induction d with
  | zero=>intro j _;rfl
  | succ d ih=>intro j hj;rw[ih j hj,cl_more h (j+d) x hx (by omega)];rfl
 intro j hj
 unfold CL
 rcases Nat.le_total j (NN n+1)with q|q
 ·have:=up (NN n+1-j) j hj;rwa [show j+(NN n+1-j)=NN n+1 by omega]at this
 ·have:=up (j - (NN n+1)) (NN n+1) (by omega);rw[show NN n+1+(j - (NN n+1))=j by omega]at this;exact this.symm
theorem close_l3 {n:S121} (h:Rt n):∀ (m:Nat) (x:List Bool),x.length=NN n→NN n-cnt x+1<m→F99_l3 5000 n m x true=some (cl n.f1 m x)
 | m+1,x,hx,hm=>by
   have h2:=h.n2
   rw[F99_l3.eq_2,if_pos rfl]
   have e:=close_l2 h (F99_l3 5000 n m) n.f1.length 0 5000 x false (by omega) (by omega) hx
   rw[Int.natCast_zero,List.drop_zero]at e
   rw[e,cl]
   have hp:=pass_len n.f1 (x,false)
   have hp':(pass n.f1 (x,false)).1.length=x.length:=hp
   by_cases q:(pass n.f1 (x,false)).2=true
   ·rw[if_pos q,q]
    have hf:=h.first
    have hnn:=h.nn
    have hle:=cnt_le (pass n.f1 (x,false)).1
    rcases pass_cnt n.f0 n.f1 (x,false) (fun e he=>⟨(h.ed e he).2.2.1,(h.ed e he).2.2.2⟩) (by show (x.length:Int)=_;omega)with r|⟨_,r⟩
    ·rw[r]at q;cases q
    ·have r':cnt x<cnt (pass n.f1 (x,false)).1:=r
     exact close_l3 h m _ (hp'.trans hx) (by rw[hp']at hle;omega)
   ·rw[if_neg q]
    cases m with
    | zero=>omega
    | succ m=>rw[F99_l3.eq_2,if_neg q,F99_c0]
def ini (n:S121) (x:List Bool):List Bool:=lcopy (List.replicate (NN n) false) x
theorem ini_len (n:S121) (x:List Bool):(ini n x).length=NN n:=by unfold ini;rw[lcopy_len,List.length_replicate]
theorem ini_self {n:S121} {x:List Bool} (hx:x.length=NN n):ini n x=x:=by
 unfold ini lcopy
 rw[List.length_replicate,List.take_of_length_le (by omega),List.drop_of_length_le (by simp;omega),List.append_nil]
theorem close_eq {n:S121} (h:Rt n) (x:List Bool):F99 5000 n x=some (CL n (ini n x)):=by
 have h1:=h.n1
 have hf:=h.first
 have hnn:=h.nn
 unfold F99
 rw[show n.f0.toNat=NN n from rfl]
 rw[if_pos ⟨by omega,by omega,by omega⟩]
 show F99_l3 5000 n 5000 (ini n x) true=_
 rw[close_l3 h 5000 _ (ini_len n x) (by omega),cl_CL h (ini_len n x) (by omega)]
def mv1 (x:List Bool) (b:Nat) (o:List Bool) (e:S152):List Bool:=if e.f3=false∧e.f0<(x.length:Int)∧lget x e.f0=true∧tb e.f2 b=true then lset o e.f1 true else o
def MV (n:S121) (x:List Bool) (b:Nat):List Bool:=n.f1.foldl (mv1 x b) (List.replicate (NN n) false)
theorem mv1_len (x:List Bool) (b:Nat) (o:List Bool) (e:S152):(mv1 x b o e).length=o.length:=by
 unfold mv1;split
 ·exact lset_len _ _ _
 ·rfl
theorem mvf_len (x:List Bool) (b:Nat):∀ (l:List S152) (o:List Bool),(l.foldl (mv1 x b) o).length=o.length
 | [],_=>rfl
 | e::l,o=>by rw[List.foldl_cons,mvf_len x b l,mv1_len]
theorem MV_len (n:S121) (x:List Bool) (b:Nat):(MV n x b).length=NN n:=by unfold MV;rw[mvf_len,List.length_replicate]
theorem guard16 {x:List Bool} {e:S152} {t:Option Bool} {b:Nat} (he:0≤e.f0) (ht:t=some (tb e.f2 b)):
 (if(!(e.f3))=true then if e.f0<(x.length:Int)then if 0≤e.f0∧e.f0<(x.length:Int)then if(lget x e.f0)=true then t.bind fun t22=>some (t22)else some (false)else none else some (false)else some (false))=some (decide (e.f3=false∧e.f0<(x.length:Int)∧lget x e.f0=true∧tb e.f2 b=true)):=by
 subst ht
 by_cases q:e.f0<(x.length:Int)
 ·cases e.f3<;>cases lget x e.f0<;>simp[q,he]
 ·cases e.f3<;>simp[q]
theorem move_l {n:S121} (h:Rt n) (x:List Bool) {b:Nat} (hb:b<256):∀ (d i m:Nat) (o:List Bool),i+d=n.f1.length→d<m→o.length=NN n→
 F100_l2 5000 n x (b:Int) m o (i:Int)=some ((n.f1.drop i).foldl (mv1 x b) o)
 | 0,i,m+1,o,hi,_,ho=>by
   rw[F100_l2.eq_2,if_neg (by omega),List.drop_of_length_le (by omega),F100_c0];rfl
 | d+1,i,m+1,o,hi,hm,ho=>by
   have hi':i<n.f1.length:=by omega
   have g:0≤(i:Int)∧(i:Int)<(n.f1.length:Int):=⟨by omega,by omega⟩
   have he:=h.ed n.f1[i] (List.getElem_mem hi')
   have hN:=h.n2
   have hf:=h.first
   have hnn:=h.nn
   rw[F100_l2.eq_2,if_pos g.2,if_pos g,lget_lt _ i hi',List.drop_eq_getElem_cons hi',guard16 he.1 (has_eq (h.u _ (List.getElem_mem hi')) hb),Option.bind_some,List.foldl_cons]
   unfold mv1
   by_cases q:n.f1[i].f3=false∧n.f1[i].f0<(x.length:Int)∧lget x n.f1[i].f0=true∧tb n.f1[i].f2 b=true
   ·rw[if_pos (decide_eq_true q),if_pos q,if_pos ⟨he.2.2.1,by have:=he.2.2.2;omega⟩,F100_c1,w64_id (by omega) (by omega)]
    have ih:=move_l h x hb d (i+1) m (lset o n.f1[i].f1 true) (by omega) (by omega) (by rw[lset_len,ho])
    unfold mv1 at ih
    exact_mod_cast ih
   ·rw[if_neg (by simpa using q),if_neg q,F100_c1,w64_id (by omega) (by omega)]
    have ih:=move_l h x hb d (i+1) m o (by omega) (by omega) ho
    unfold mv1 at ih
    exact_mod_cast ih
theorem move_eq {n:S121} (h:Rt n) (x:List Bool) {c:Int} (h0:0≤c) (h1:c≤255):F100 5000 n x c=some (MV n x c.toNat):=by
 obtain⟨b,rfl⟩:=Int.eq_ofNat_of_zero_le h0
 have hn1:=h.n1
 have hn2:=h.n2
 have hf:=h.first
 have hnn:=h.nn
 unfold F100
 rw[show n.f0.toNat=NN n from rfl]
 rw[if_pos ⟨by omega,by omega,by omega⟩]
 have:=move_l h x (b:=b) (by omega) n.f1.length 0 5000 (List.replicate (NN n) false) (by omega) (by omega) (by simp)
 rw[Int.natCast_zero,List.drop_zero]at this
 exact this
inductive SL (P:List Nat→Prop):List Nat→Prop where
 | nil:SL P []
 | step (x y:List Nat):x≠[]→P x→SL P y→SL P (x++y)
theorem SL.inv {P:List Nat→Prop} {w:List Nat} (h:SL P w):w=[]∨∃ x y,x≠[]∧P x∧SL P y∧w=x++y:=by
 cases h with
 | nil=>exact .inl rfl
 | step x y a b c=>exact .inr ⟨x,y,a,b,c,rfl⟩
theorem SL.app {P:List Nat→Prop} {x y:List Nat} (h:SL P x) (hy:P y):SL P (x++y):=by
 induction h with
 | nil=>
   by_cases e:y=[]
   ·rw[e];exact .nil
   ·have:=SL.step y [] e hy .nil
    rw[List.append_nil]at this;exact this
 | step u v a b c ih=>rw[List.append_assoc];exact .step u _ a b ih
def Lx:Rx→List Nat→Prop
 | .non,v=>v=[]
 | .one s,v=>∃ b,v=[b]∧tb s b=true
 | .cat a b,v=>∃ x y,v=x++y∧Lx a x∧Lx b y
 | .alt a b,v=>Lx a v∨Lx b v
 | .un k a,v=>if k=6 then v=[]∨Lx a v else if k=4 then SL (Lx a) v else ∃ x y,v=x++y∧Lx a x∧SL (Lx a) y
theorem lget_lsetB (l:List Bool) (i q:Int) (b:Bool) (h0:0≤i) (h1:i<(l.length:Int)) (hq:0≤q):lget (lset l i b) q=if q=i then b else lget l q:=by
 unfold lget lset
 rw[List.getD,List.getD,List.getElem?_set]
 by_cases e:i.toNat=q.toNat
 ·rw[if_pos e,if_pos (by omega),if_pos (by omega)];rfl
 ·rw[if_neg e,if_neg (by omega)]
theorem lget_repB (N:Nat) (q:Int):lget (List.replicate N false) q=false:=by
 unfold lget
 rw[List.getD,List.getElem?_replicate]
 split<;>rfl
theorem lget_iff (x:List Bool) (q:Int):lget x q=true↔x[q.toNat]? =some true:=by
 unfold lget
 rw[List.getD]
 cases x[q.toNat]? with
 | none=>simp
 | some b=>cases b<;>simp
theorem le_cnt:∀ (x y:List Bool),x.length=y.length→(∀ j:Nat,x[j]? =some true→y[j]? =some true)→x=y∨cnt x<cnt y
 | [],[],_,_=>.inl rfl
 | a::x,b::y,hl,h=>by
   have ih:=le_cnt x y (by simpa using hl) (fun j hj=>by have:=h (j+1) (by simpa using hj);simpa using this)
   have h0:a=true→b=true:=fun e=>by have:=h 0 (by simp[e]);simpa using this
   simp only[cnt,List.count_cons]at ih⊢
   rcases ih with rfl|ih
   ·cases a<;>cases b<;>simp at h0⊢
   ·right
    cases a<;>cases b<;>simp at h0⊢ <;>omega
def LE (x y:List Bool):Prop:=∀ q:Int,0≤q→lget x q=true→lget y q=true
theorem LE.cnt {x y:List Bool} (h:LE x y) (hl:x.length=y.length):x=y∨cnt x<cnt y:=
 le_cnt x y hl fun j hj=>by
  have:=h (j:Int) (by omega) ((lget_iff _ _).2 (by simpa using hj))
  have:=(lget_iff _ _).1 this
  simpa using this
theorem LE.refl (x:List Bool):LE x x:=fun _ _ h=>h
theorem LE.trans {x y z:List Bool} (h:LE x y) (k:LE y z):LE x z:=fun q h0 h1=>k q h0 (h q h0 h1)
def W (s:ByteArray):List Nat:=s.data.toList.map UInt8.toNat
theorem W_len (s:ByteArray):(W s).length=s.size:=by simp[W]
theorem W_get (s:ByteArray) (i:Nat) (h:i<(W s).length):byteAt s (i:Int)=((W s)[i]:Int):=by
 have hs:i<s.size:=by rw[←W_len];exact h
 unfold byteAt
 rw[dif_pos (by rw[Int.toNat_natCast];exact hs)]
 simp[W,ByteArray.getElem_eq_getElem_data]
theorem W_lt (s:ByteArray) (i:Nat) (h:i<(W s).length):(W s)[i]<256:=by
 simp only[W,List.getElem_map]
 exact UInt8.toNat_lt _
def sl (w:List Nat) (i j:Nat):List Nat:=(w.drop i).take (j-i)
theorem sl_self (w:List Nat) (i:Nat):sl w i i=[]:=by simp[sl]
theorem sl_all (w:List Nat):sl w 0 w.length=w:=by simp[sl]
theorem sl_len {w:List Nat} {i j:Nat} (h:i≤j) (hj:j≤w.length):(sl w i j).length=j-i:=by simp[sl];omega
theorem sl_app {w:List Nat} {i m j:Nat} (h1:i≤m) (h2:m≤j):sl w i m++sl w m j=sl w i j:=by
 unfold sl
 rw[show j-i=(m-i)+(j-m)by omega,List.take_add,List.drop_drop,show i+(m-i)=m by omega]
theorem sl_split {w:List Nat} {i j:Nat} (h:i≤j) (hj:j≤w.length) {x y:List Nat} (e:sl w i j=x++y):∃ m,i≤m∧m≤j∧sl w i m=x∧sl w m j=y:=by
 have hl:=sl_len h hj
 rw[e,List.length_append]at hl
 refine⟨i+x.length,by omega,by omega,?_,?_⟩
 ·have:(sl w i j).take x.length=x:=by rw[e];exact List.take_left ..
  unfold sl at this⊢
  rw[List.take_take]at this
  rw[show i+x.length-i=min x.length (j-i)by omega];exact this
 ·have:(sl w i j).drop x.length=y:=by rw[e];exact List.drop_left ..
  unfold sl at this⊢
  rw[List.drop_take,List.drop_drop]at this
  rw[show j - (i+x.length)=j-i-x.length by omega];exact this
theorem sl_one {w:List Nat} {i:Nat} (h:i<w.length):sl w i (i+1)=[w[i]]:=by
 unfold sl
 rw[show i+1-i=1 by omega,List.drop_eq_getElem_cons h];rfl
def EN (P:List Nat→Prop) (w:List Nat) (p q:List Bool):Prop:=q.length=w.length+1∧∀ j:Nat,j≤w.length→(lget q (j:Int)=true↔∃ i:Nat,i≤j∧lget p (i:Int)=true∧P (sl w i j))
theorem EN.congr {P Q:List Nat→Prop} {w:List Nat} {p q:List Bool} (h:EN P w p q) (e:∀ v,P v↔Q v):EN Q w p q:=
 ⟨h.1,fun j hj=>by
   rw[h.2 j hj]
   constructor
   ·rintro⟨i,a,b,c⟩;exact⟨i,a,b,(e _).1 c⟩
   ·rintro⟨i,a,b,c⟩;exact⟨i,a,b,(e _).2 c⟩⟩
theorem EN.non {w:List Nat} {p:List Bool} (hp:p.length=w.length+1):EN (fun v=>v=[]) w p p:=by
 refine⟨hp,fun j hj=>⟨fun h=>⟨j,Nat.le_refl _,h,sl_self w j⟩,?_⟩⟩
 rintro⟨i,a,b,c⟩
 have:=sl_len a hj
 rw[c]at this
 have:i=j:=by simp at this;omega
 rw[←this];exact b
theorem EN.cat {P Q:List Nat→Prop} {w:List Nat} {p m q:List Bool} (h:EN P w p m) (k:EN Q w m q):EN (fun v=>∃ x y,v=x++y∧P x∧Q y) w p q:=by
 refine⟨k.1,fun j hj=>?_⟩
 rw[k.2 j hj]
 constructor
 ·rintro⟨l,a,b,c⟩
  obtain⟨i,a',b',c'⟩:=(h.2 l (by omega)).1 b
  exact⟨i,by omega,b',_,_,(sl_app a' a).symm,c',c⟩
 ·rintro⟨i,a,b,x,y,e,hx,hy⟩
  obtain⟨l,l1,l2,rfl,rfl⟩:=sl_split a hj e
  exact⟨l,l2,(h.2 l (by omega)).2 ⟨i,l1,b,hx⟩,hy⟩
def orL (x y:List Bool):List Bool:=List.zipWith (fun a b=>a||b) x y
theorem orL_len {x y:List Bool} (h:x.length=y.length):(orL x y).length=x.length:=by simp[orL,h]
theorem orL_get {x y:List Bool} (h:x.length=y.length) (i:Nat) (hi:i<x.length):lget (orL x y) (i:Int)=(lget x (i:Int)||lget y (i:Int)):=by
 rw[lget_lt _ i (by rw[orL_len h];exact hi),lget_lt x i hi,lget_lt y i (by omega)]
 simp[orL]
theorem EN.or {P Q:List Nat→Prop} {w:List Nat} {p x y:List Bool} (h:EN P w p x) (k:EN Q w p y):EN (fun v=>P v∨Q v) w p (orL x y):=by
 have e:x.length=y.length:=by rw[h.1,k.1]
 refine⟨by rw[orL_len e,h.1],fun j hj=>?_⟩
 rw[orL_get e j (by rw[h.1];omega),Bool.or_eq_true,h.2 j hj,k.2 j hj]
 constructor
 ·rintro (⟨i,a,b,c⟩|⟨i,a,b,c⟩)
  ·exact⟨i,a,b,.inl c⟩
  ·exact⟨i,a,b,.inr c⟩
 ·rintro⟨i,a,b,c|c⟩
  ·exact .inl ⟨i,a,b,c⟩
  ·exact .inr ⟨i,a,b,c⟩
def SO (P:List Nat→Prop) (w:List Nat) (p x:List Bool):Prop:=∀ j:Nat,j≤w.length→lget x (j:Int)=true→∃ i:Nat,i≤j∧lget p (i:Int)=true∧SL P (sl w i j)
theorem SO.self (P:List Nat→Prop) (w:List Nat) (p:List Bool):SO P w p p:=fun j hj h=>⟨j,Nat.le_refl _,h,by rw[sl_self];exact .nil⟩
theorem SO.or {P:List Nat→Prop} {w:List Nat} {p x q:List Bool} (h:SO P w p x) (hx:x.length=w.length+1) (k:EN P w x q):SO P w p (orL x q):=by
 intro j hj hb
 have e:x.length=q.length:=by rw[hx,k.1]
 rw[orL_get e j (by omega),Bool.or_eq_true]at hb
 rcases hb with hb|hb
 ·exact h j hj hb
 ·obtain⟨m,a,b,c⟩:=(k.2 j hj).1 hb
  obtain⟨i,a',b',c'⟩:=h m (by omega) b
  refine⟨i,by omega,b',?_⟩
  rw[←sl_app a' a];exact c'.app c
theorem SL.close {P:List Nat→Prop} {w:List Nat} {x:List Bool} (hc:∀ i j:Nat,i≤j→j≤w.length→lget x (i:Int)=true→P (sl w i j)→lget x (j:Int)=true):∀ v,SL P v→∀ i j:Nat,i≤j→j≤w.length→sl w i j=v→lget x (i:Int)=true→lget x (j:Int)=true:=by
 intro v h
 induction h with
 | nil=>
   intro i j a b e h
   have:=sl_len a b
   rw[e]at this
   have:i=j:=by simp at this;omega
   rw[←this];exact h
 | step u v hu hp _ ih=>
   intro i j a b e h
   obtain⟨m,m1,m2,rfl,rfl⟩:=sl_split a b e
   exact ih m j m2 b rfl (hc i m m1 (by omega) h hp)
theorem EN.star {P:List Nat→Prop} {w:List Nat} {p x:List Bool} (hs:SO P w p x) (hx:x.length=w.length+1) (hl:LE p x) (hc:∀ i j:Nat,i≤j→j≤w.length→lget x (i:Int)=true→P (sl w i j)→lget x (j:Int)=true):EN (SL P) w p x:=by
 refine⟨hx,fun j hj=>⟨hs j hj,?_⟩⟩
 rintro⟨i,a,b,c⟩
 exact SL.close hc _ c i j a hj rfl (hl _ (by omega) b)
theorem full_of {x:List Bool} (h:x.length≤cnt x) (j:Nat) (hj:j<x.length):lget x (j:Int)=true:=by
 have h':x.count true=x.length:=Nat.le_antisymm (cnt_le x) h
 rw[lget_lt x j hj]
 exact(List.count_eq_length.1 h' _ (List.getElem_mem hj)).symm
theorem ror_l (x y:List Bool) (hl:x.length=y.length) (hz:x.length≤2000):∀ (m i fuel:Nat) (a:List Bool),i+m=x.length→m<fuel→a.length≤i→F86_l2 KK x y fuel a (i:Int)=some (a++orL (x.drop i) (y.drop i))
 | 0,i,f+1,a,hi,_,_=>by
   rw[F86_l2.eq_2,if_neg (by omega),List.drop_of_length_le (by omega)]
   show some a=some (a++[]);rw[List.append_nil]
 | m+1,i,f+1,a,hi,hf,ha=>by
   have h1:i<x.length:=by omega
   have h2:i<y.length:=by omega
   have hlen:∀ b:Bool,(a++([b]:List Bool)).length*1≤140737488355328:=fun b=>by simp;omega
   rw[F86_l2.eq_2,if_pos (by omega),if_pos ⟨by omega,by omega⟩,lget_lt x i h1,lget_lt y i h2,List.drop_eq_getElem_cons h1,List.drop_eq_getElem_cons h2]
   show _=some (a++((x[i]||y[i])::orL (x.drop (i+1)) (y.drop (i+1))))
   have ih:=ror_l x y hl hz m (i+1) f (a++[x[i]||y[i]]) (by omega) (by omega) (by simp;omega)
   rw[List.append_assoc]at ih
   unfold F86_c1
   rw[w6t (by omega) (by omega)]
   cases hx:x[i]with
   | true=>
     rw[hx]at ih
     rw[if_pos rfl,if_pos (hlen _)];exact_mod_cast ih
   | false=>
     rw[hx]at ih
     rw[if_neg (by decide),if_pos ⟨by omega,by omega⟩,if_pos (hlen _)];exact_mod_cast ih
theorem ror_eq {x y:List Bool} (hl:x.length=y.length) (hz:x.length≤2000):F86 KK x y=some (orL x y):=by
 have:=ror_l x y hl hz x.length 0 KK [] (by omega) (by show _<5000;omega) (by simp)
 unfold F86
 exact this
theorem again_l3 (rec7:List Bool→Int→Option (List Bool)) (x:List Bool) (x6:Int) (t:List Bool) (hl:x.length=t.length) (hz:x.length≤2000):∀ (m i fuel:Nat) (b:Bool),i+m=t.length→m<fuel→
 F65b_l3 KK rec7 x x6 t fuel b (i:Int)=F65b_c2 KK rec7 x6 t (b&&decide (t.drop i=x.drop i))
 | 0,i,f+1,b,hi,_=>by
   rw[F65b_l3.eq_2,if_neg (by omega),List.drop_of_length_le (by omega),List.drop_of_length_le (by omega)];simp
 | m+1,i,f+1,b,hi,hf=>by
   have h1:i<t.length:=by omega
   have h2:i<x.length:=by omega
   rw[F65b_l3.eq_2,if_pos (by omega),lget_lt t i h1,lget_lt x i h2,List.drop_eq_getElem_cons h1,List.drop_eq_getElem_cons h2,w6t (by omega) (by omega)]
   have ih:=fun b=>again_l3 rec7 x x6 t hl hz m (i+1) f b (by omega) (by omega)
   have e:decide (t[i]::t.drop (i+1)=x[i]::x.drop (i+1))=((t[i]==x[i])&&decide (t.drop (i+1)=x.drop (i+1))):=by
    rw[Bool.eq_iff_iff,decide_eq_true_iff,Bool.and_eq_true,beq_iff_eq,decide_eq_true_iff,List.cons.injEq]
   rw[e]
   cases b with
   | true=>
     rw[if_pos rfl,if_pos ⟨by omega,by omega⟩,if_pos ⟨by omega,by omega⟩,Option.bind_some,Bool.true_and]
     exact_mod_cast ih (t[i]==x[i])
   | false=>
     rw[if_neg (by decide),Option.bind_some,Bool.false_and]
     have:=ih false
     rw[Bool.false_and]at this
     exact_mod_cast this
theorem again_l4 (self:List S131→ByteArray→List Bool→Option (List Bool)) (p0:List S131) (s:ByteArray) (hs:s.size≤1000) (P:List Nat→Prop) (H:∀ p:List Bool,p.length=s.size+1→∃ q,self p0 s p=some q∧EN P (W s) p q) (p:List Bool):∀ (d i fuel:Nat) (x:List Bool),i+d=s.size+1→d<fuel→x.length=s.size+1→i≤cnt x→LE p x→SO P (W s) p x→
 ∃ q,F65b_l4 KK self p0 s fuel x (i:Int)=some q∧EN (SL P) (W s) p q
 | 0,i,f+1,x,hi,_,hx,hc,hl,hso=>by
   have hw:=W_len s
   rw[F65b_l4.eq_2,if_neg (by omega)]
   exact⟨x,rfl,EN.star hso (by rw[hw,hx]) hl fun a b _ hb _ _=>full_of (by omega) b (by omega)⟩
 | d+1,i,f+1,x,hi,hf,hx,hc,hl,hso=>by
   have hw:=W_len s
   obtain⟨q,q1,q2⟩:=H x hx
   have e:x.length=q.length:=by rw[hx,q2.1,hw]
   have hol:=orL_len e
   have hle:LE x (orL x q):=fun z hz h=>by
    have hz':z.toNat<x.length:=by
     rw[lget_iff]at h
     exact(List.getElem?_eq_some_iff.1 h).1
    have:=orL_get e z.toNat hz'
    rw[show ((z.toNat:Nat):Int)=z by omega]at this
    rw[this,h];rfl
   rw[F65b_l4.eq_2,if_pos (by omega),q1,Option.bind_some,ror_eq e (by omega),Option.bind_some]
   have l3:=again_l3 (F65b_l4 KK self p0 s f) x (i:Int) (orL x q) (by rw[hol]) (by omega) (orL x q).length 0 KK true (by omega) (by show _<5000;omega)
   rw[Int.natCast_zero]at l3
   rw[l3,List.drop_zero,List.drop_zero,Bool.true_and]
   unfold F65b_c2 F65b_c1
   by_cases a:orL x q=x
   ·rw[if_pos (decide_eq_true a),a]
    refine⟨x,rfl,EN.star hso (by rw[hw,hx]) hl fun u v huv hv hu hp=>?_⟩
    have:lget q (v:Int)=true:=(q2.2 v hv).2 ⟨u,huv,hu,hp⟩
    have g:=orL_get e v (by omega)
    rw[a,this,Bool.or_true]at g;exact g
   ·rw[if_neg (by simpa using a),w6t (by omega) (by omega)]
    have hcn:cnt x<cnt (orL x q):=by
     rcases hle.cnt (by rw[hol])with k|k
     ·exact absurd k.symm a
     ·exact k
    have ih:=again_l4 self p0 s hs P H p d (i+1) f (orL x q) (by omega) (by omega) (by rw[hol,hx]) (by omega) (hl.trans hle) (hso.or (by rw[hw,hx]) q2)
    exact_mod_cast ih
theorem one_l3 {st:Vector Int 4} (hu:U st) (s:ByteArray) (hs:s.size≤1000) (p:List Bool) (hp:p.length=s.size+1):∀ (m i fuel:Nat) (x:List Bool),i+m=s.size→m<fuel→x.length=s.size+1→
 (∀ j:Nat,j≤s.size→(lget x (j:Int)=true↔∃ u:Nat,j=u+1∧u<i∧lget p (u:Int)=true∧∃ h:u<(W s).length,tb st (W s)[u]=true))→
 ∃ q,F65a_l3 KK (ser (.one st)) s p fuel x (i:Int)=some q∧EN (Lx (.one st)) (W s) p q
 | 0,i,f+1,x,hi,_,hx,hq=>by
   have hw:=W_len s
   rw[F65a_l3.eq_2,if_neg (by omega)]
   refine⟨x,rfl,by rw[hx,hw],fun j hj=>?_⟩
   rw[hq j (by omega)]
   constructor
   ·rintro⟨u,rfl,u1,u2,u3,u4⟩
    exact⟨u,by omega,u2,(W s)[u],sl_one u3,u4⟩
   ·rintro⟨u,u1,u2,b,e,hb⟩
    have hl:=sl_len u1 hj
    rw[e]at hl
    simp at hl
    have:j=u+1:=by omega
    subst this
    have h3:u<(W s).length:=by omega
    rw[sl_one h3]at e
    exact⟨u,rfl,by omega,u2,h3,by rw[(List.cons.inj e).1];exact hb⟩
 | m+1,i,f+1,x,hi,hf,hx,hq=>by
   have hw:=W_len s
   have h3:i<(W s).length:=by omega
   have hb:=W_lt s i h3
   have g:0≤(i:Int)∧(i:Int)<(s.size:Int):=⟨by omega,by omega⟩
   have e1:w64 (((ser (.one st)).length:Int) -1)=0:=by
    rw[show ((ser (.one st)).length:Int)=1 from rfl];rfl
   have g2:0≤(0:Int)∧(0:Int)<((ser (.one st)).length:Int):=⟨by decide,by show (0:Int)<1;decide⟩
   have key:∀ b:Bool,(b=true↔lget p (i:Int)=true∧tb st (W s)[i]=true)→∀ j:Nat,j≤s.size→(lget (lset x ((i:Int)+1) b) (j:Int)=true↔∃ u:Nat,j=u+1∧u<i+1∧lget p (u:Int)=true∧∃ h:u<(W s).length,tb st (W s)[u]=true):=by
    intro b hbi j hj
    rw[lget_lsetB x _ _ b (by omega) (by omega) (by omega)]
    by_cases c:(j:Int)=(i:Int)+1
    ·rw[if_pos c,hbi]
     have:j=i+1:=by omega
     subst this
     constructor
     ·rintro⟨a1,a2⟩;exact⟨i,rfl,by omega,a1,h3,a2⟩
     ·rintro⟨u,hu1,_,a1,_,a2⟩
      obtain rfl:i=u:=by omega
      exact⟨a1,a2⟩
    ·rw[if_neg c,hq j hj]
     constructor
     ·rintro⟨u,hu1,hu2,r⟩;exact⟨u,hu1,by omega,r⟩
     ·rintro⟨u,hu1,hu2,r⟩;exact⟨u,hu1,by omega,r⟩
   have go:=fun b (hbi:b=true↔lget p (i:Int)=true∧tb st (W s)[i]=true)=>one_l3 hu s hs p hp m (i+1) f (lset x ((i:Int)+1) b) (by omega) (by omega) (by rw[lset_len,hx]) (key b hbi)
   rw[F65a_l3.eq_2,if_pos g.2,if_pos ⟨by omega,by omega⟩,e1,if_pos g2,if_pos g,show lget (ser (.one st)) (0:Int)=S131.mk 1 st from rfl,W_get s i h3,w6t (x:=(((W s)[i]:Nat):Int)) (by omega) (by omega),w6t (x:=(i:Int)+1) (by omega) (by omega)]
   unfold F65a_c2
   rw[w6t (x:=(i:Int)+1) (by omega) (by omega)]
   have g4:0≤(i:Int)+1∧(i:Int)+1<(x.length:Int):=⟨by omega,by omega⟩
   by_cases c:lget p (i:Int)=true
   ·rw[if_pos c,rhas_eq hu hb,Option.bind_some,if_pos g4]
    have:=go (tb st (W s)[i]) ⟨fun h=>⟨c,h⟩,fun h=>h.2⟩
    exact_mod_cast this
   ·rw[if_neg c,if_pos g4]
    have:=go false ⟨fun h=>(Bool.noConfusion h),fun h=>absurd h.1 c⟩
    exact_mod_cast this
theorem ends_r (s:ByteArray) (hs:s.size≤1000):∀ (t:Rx),ROK t→(ser t).length≤2000→∀ (j:Nat) (p:List Bool),2*(ser t).length≤j→p.length=s.size+1→∃ q,F65a_r KK j (ser t) s p=some q∧EN (Lx t) (W s) p q:=by
 have hw:=W_len s
 intro t
 induction t with
 | non=>
   intro ht hz j p hj hp
   obtain⟨j,rfl⟩:∃ i,j=i+1:=⟨j-1,by have:=ser_pos .non;omega⟩
   have e0:(S131.mk (kind .non) (setOf .non)).f0=0:=rfl
   rw[F65a_r.eq_2,if_pos ⟨by omega,by omega,by omega⟩,rparts_eq ht (by omega),Option.bind_some,last_ix (by omega),if_pos ⟨by omega,by have:=ser_pos .non;omega⟩,last_get,e0,if_pos rfl]
   exact⟨p,rfl,EN.non (by rw[hp,hw])⟩
 | one st=>
   intro ht hz j p hj hp
   have hps:=ser_pos (.one st)
   obtain⟨j,rfl⟩:∃ i,j=i+1:=⟨j-1,by omega⟩
   have e0:(S131.mk (kind (.one st)) (setOf (.one st))).f0=1:=rfl
   rw[F65a_r.eq_2,if_pos ⟨by omega,by omega,by omega⟩,rparts_eq ht (by omega),Option.bind_some,last_ix (by omega),if_pos ⟨by omega,by omega⟩,last_get,e0,if_neg (by decide),if_pos rfl]
   have:=one_l3 ht.1 s hs p hp s.size 0 KK (List.replicate (p.length:Int).toNat false) (by omega) (by show _<5000;omega) (by simp[hp]) (fun j _=>by
    rw[lget_repB]
    constructor
    ·intro h;cases h
    ·rintro⟨u,_,h,_⟩;omega)
   exact_mod_cast this
 | cat a b iha ihb=>
   intro ht hz j p hj hp
   have hlen:(ser (.cat a b)).length=(ser a).length+(ser b).length+1:=by simp only[ser,List.length_append,List.length_cons,List.length_nil]
   obtain⟨j,rfl⟩:∃ i,j=i+1:=⟨j-1,by omega⟩
   have e0:(S131.mk (kind (.cat a b)) (setOf (.cat a b))).f0=2:=rfl
   have g:((parts (.cat a b)).length:Int)=2:=rfl
   have g0:lget (parts (.cat a b)) (0:Int)=ser a:=rfl
   have g1:lget (parts (.cat a b)) (1:Int)=ser b:=rfl
   obtain⟨q,q1,q2⟩:=iha ht.1 (by omega) j p (by omega) hp
   obtain⟨r,r1,r2⟩:=ihb ht.2 (by omega) j q (by omega) (by rw[q2.1,hw])
   rw[F65a_r.eq_2,if_pos ⟨by omega,by omega,by omega⟩,rparts_eq ht (by omega),Option.bind_some,last_ix (by omega),if_pos ⟨by omega,by omega⟩,last_get,e0,g,if_neg (by decide),if_neg (by decide),if_pos rfl,if_pos (by decide),if_pos (by decide),g0,q1,Option.bind_some,g1,r1,Option.bind_some]
   exact⟨r,rfl,q2.cat r2⟩
 | alt a b iha ihb=>
   intro ht hz j p hj hp
   have hlen:(ser (.alt a b)).length=(ser a).length+(ser b).length+1:=by simp only[ser,List.length_append,List.length_cons,List.length_nil]
   obtain⟨j,rfl⟩:∃ i,j=i+1:=⟨j-1,by omega⟩
   have e0:(S131.mk (kind (.alt a b)) (setOf (.alt a b))).f0=3:=rfl
   have g:((parts (.alt a b)).length:Int)=2:=rfl
   have g0:lget (parts (.alt a b)) (0:Int)=ser a:=rfl
   have g1:lget (parts (.alt a b)) (1:Int)=ser b:=rfl
   obtain⟨q,q1,q2⟩:=iha ht.1 (by omega) j p (by omega) hp
   obtain⟨r,r1,r2⟩:=ihb ht.2 (by omega) j p (by omega) hp
   have hq:=q2.1
   have hr:=r2.1
   rw[F65a_r.eq_2,if_pos ⟨by omega,by omega,by omega⟩,rparts_eq ht (by omega),Option.bind_some,last_ix (by omega),if_pos ⟨by omega,by omega⟩,last_get,e0,g,if_neg (by decide),if_neg (by decide),if_neg (by decide),if_pos rfl,if_pos (by decide),g0,q1,Option.bind_some,if_pos (by decide),g1,r1,Option.bind_some,ror_eq (by omega) (by omega),Option.bind_some]
   exact⟨_,rfl,q2.or r2⟩
 | un k a iha=>
   intro ht hz j p hj hp
   have hlen:(ser (.un k a)).length=(ser a).length+1:=by simp[ser]
   have hpa:=ser_pos a
   have k1:=ht.1
   have k2:=ht.2.1
   obtain⟨j,rfl⟩:∃ i,j=i+1+1:=⟨j-2,by omega⟩
   have e0:(S131.mk (kind (.un k a)) (setOf (.un k a))).f0=k:=rfl
   have g:((parts (.un k a)).length:Int)=1:=rfl
   have g0:lget (parts (.un k a)) (0:Int)=ser a:=rfl
   have st:∀ x:List Bool,x.length=s.size+1→∃ q,F65b_r KK (j+1) (ser a) s x=some q∧EN (SL (Lx a)) (W s) x q:=by
    intro x hx
    have:=again_l4 (F65a_r KK j) (ser a) s hs (Lx a) (fun p hp=>iha ht.2.2 (by omega) j p (by omega) hp) x (s.size+1) 0 KK x (by omega) (by show _<5000;omega) hx (by omega) (LE.refl x) (SO.self _ _ _)
    rw[Int.natCast_zero]at this
    rw[F65b_r.eq_2];exact this
   rw[F65a_r.eq_2,if_pos ⟨by omega,by omega,by omega⟩,rparts_eq ht (by omega),Option.bind_some]
   unfold F65a_c0
   rw[last_ix (by omega),if_pos ⟨by omega,by omega⟩,last_get,e0,g,g0,if_neg (by omega),if_neg (by omega),if_neg (by omega),if_neg (by omega)]
   by_cases k6:k=6
   ·obtain⟨q,q1,q2⟩:=iha ht.2.2 (by omega) (j+1) p (by omega) hp
    have hq:=q2.1
    rw[if_pos k6,if_pos (by decide),q1,Option.bind_some,ror_eq (by omega) (by omega),Option.bind_some]
    refine⟨_,rfl,((EN.non (by rw[hp,hw])).or q2).congr fun v=>?_⟩
    conv=>rhs;unfold Lx
    rw[if_pos k6]
   ·rw[if_neg k6]
    by_cases k4:k=4
    ·obtain⟨q,q1,q2⟩:=st p hp
     rw[if_pos ⟨by omega,by omega⟩,if_pos k4,if_pos (by decide),q1,Option.bind_some]
     refine⟨_,rfl,q2.congr fun v=>?_⟩
     conv=>rhs;unfold Lx
     rw[if_neg k6,if_pos k4]
    ·obtain⟨q,q1,q2⟩:=iha ht.2.2 (by omega) (j+1) p (by omega) hp
     obtain⟨r,r1,r2⟩:=st q (by rw[q2.1,hw])
     rw[if_pos ⟨by omega,by omega⟩,if_neg k4,if_pos (by decide),if_pos (by decide),q1,Option.bind_some,r1,Option.bind_some]
     refine⟨_,rfl,(q2.cat r2).congr fun v=>?_⟩
     conv=>rhs;unfold Lx
     rw[if_neg k6,if_neg k4]
theorem rxhas_eq {t:Rx} (ht:ROK t) (hz:(ser t).length≤400) (s:ByteArray) (hs:s.size≤1000):∃ b,F36 KK (ser t) s=some b∧(b=true↔Lx t (W s)):=by
 have hw:=W_len s
 have e1:w64 ((s.size:Int)+1)=((s.size+1:Nat):Int):=by rw[w6t (by omega) (by omega)];omega
 obtain⟨q,q1,q2⟩:=ends_r s hs t ht (by omega) KK (lset (List.replicate (s.size+1) false) (0:Int) true) (by show _≤5000;omega) (by rw[lset_len,List.length_replicate])
 have hq:=q2.1
 refine⟨lget q (s.size:Int),?_,?_⟩
 ·unfold F36
  rw[e1,Int.toNat_natCast,if_pos ⟨by omega,by omega,by omega⟩,if_pos ⟨by omega,by rw[List.length_replicate];omega⟩]
  unfold F65a
  rw[q1,Option.bind_some,if_pos ⟨by omega,by omega⟩]
 ·rw[q2.2 s.size (by omega)]
  have one:∀ i:Nat,lget (lset (List.replicate (s.size+1) false) (0:Int) true) (i:Int)=true↔i=0:=by
   intro i
   rw[lget_lsetB _ _ _ _ (by omega) (by rw[List.length_replicate];omega) (by omega),lget_repB]
   by_cases c:(i:Int)=0
   ·rw[if_pos c];simp;omega
   ·rw[if_neg c];simp;omega
  have hall:sl (W s) 0 s.size=W s:=by rw[←hw];exact sl_all _
  constructor
  ·rintro⟨i,a,b,c⟩
   rw[one]at b
   subst b
   rw[hall]at c;exact c
  ·intro h
   exact⟨0,by omega,(one 0).2 rfl,by rw[hall];exact h⟩
theorem bind_tot {α β:Type} {o:Option α} {f:α→Option β} {Q:β→Prop} (h:∃ b,o=some b) (k:∀ b,o=some b→∃ y,f b=some y∧Q y):∃ y,o.bind f=some y∧Q y:=by
 obtain⟨b,hb⟩:=h
 obtain⟨y,y1,y2⟩:=k b hb
 exact⟨y,by rw[hb,Option.bind_some];exact y1,y2⟩
theorem value_tot (x:Int):∃ v,F150 5000 x=some v:=by
 unfold F150
 split
 ·rw[Option.bind_some]
  split
  ·exact⟨_,rfl⟩
  ·split
   ·rw[Option.bind_some];split<;>exact⟨_,rfl⟩
   ·exact⟨_,rfl⟩
 ·rw[Option.bind_some,if_neg (by decide)]
  split
  ·rw[Option.bind_some];split<;>exact⟨_,rfl⟩
  ·exact⟨_,rfl⟩
def EQ (s:ByteArray) (y:Int×Int×Bool):Prop:=∃ c n:Nat,y=((c:Int),(n:Int),y.2.2)∧c<256∧n≤s.size∧(y.2.2=true→1≤n)
theorem EQ.mk {s:ByteArray} {c:Int} {n:Nat} {b:Bool} (h:0≤c∧c≤255) (hn:n≤s.size) (hb:b=true→1≤n):EQ s (c,(n:Int),b):=by
 obtain⟨m,rfl⟩:=Int.eq_ofNat_of_zero_le h.1
 exact⟨m,n,rfl,by omega,hn,hb⟩
theorem w8r (x:Int):0≤w8 x∧w8 x≤255:=by rw[w8_eq];omega
theorem eread_tot (s:ByteArray):∃ y,F148 5000 s=some y∧EQ s y:=by
 have c1:∃ y,F148_c1 5000=some y∧EQ s y:=⟨_,rfl,EQ.mk (n:=0) (by omega) (Nat.zero_le _) (fun h=>by cases h)⟩
 unfold F148
 by_cases e:s=ByteArray.mk #[]
 ·rw[if_pos e]
  exact⟨_,rfl,EQ.mk (n:=0) (by omega) (Nat.zero_le _) (fun h=>by cases h)⟩
 ·rw[if_neg e]
  have hs:0<s.size:=by
   refine Classical.byContradiction fun q=>e ?_
   have h0:s.size=0:=by omega
   have h1:s.data.size=0:=h0
   cases s with
   | mk d=>congr 1;exact Array.eq_empty_of_size_eq_zero h1
  have u0:=byteAt_u8 s 0
  have u1:=byteAt_u8 s 1
  rw[if_pos ⟨by omega,by omega⟩]
  by_cases b:byteAt s 0≠92
  ·rw[if_pos b,if_pos ⟨by omega,by omega⟩]
   exact⟨_,rfl,EQ.mk (n:=1) u0 (by omega) (fun _=>Nat.le_refl _)⟩
  ·rw[if_neg b]
   by_cases c:(s.size:Int)<2
   ·rw[if_pos c]
    exact⟨_,rfl,EQ.mk (n:=0) (by omega) (Nat.zero_le _) (fun h=>by cases h)⟩
   ·rw[if_neg c,if_pos ⟨by omega,by omega⟩]
    split
    ·exact⟨_,rfl,EQ.mk (n:=2) (by omega) (by omega) (fun _=>by omega)⟩
    ·split
     ·exact⟨_,rfl,EQ.mk (n:=2) (by omega) (by omega) (fun _=>by omega)⟩
     ·split
      ·exact⟨_,rfl,EQ.mk (n:=2) (by omega) (by omega) (fun _=>by omega)⟩
      ·split
       ·unfold F148_c2
        obtain⟨v2,e2⟩:=value_tot (byteAt s 2)
        obtain⟨v3,e3⟩:=value_tot (byteAt s 3)
        by_cases q:(4:Int)≤(s.size:Int)
        ·have g2:(0:Int)≤2∧(2:Int)<(s.size:Int):=⟨by omega,by omega⟩
         have g3:(0:Int)≤3∧(3:Int)<(s.size:Int):=⟨by omega,by omega⟩
         rw[if_pos q]
         refine bind_tot ?_ fun b hb=>?_
         ·rw[if_pos g2,e2,Option.bind_some]
          by_cases v:0≤v2
          ·rw[if_pos v,if_pos g3,e3,Option.bind_some];exact⟨_,rfl⟩
          ·rw[if_neg v];exact⟨_,rfl⟩
         ·cases b with
          | true=>
            rw[if_pos rfl,if_pos g2,e2,Option.bind_some,if_pos g3,e3,Option.bind_some]
            exact⟨_,rfl,EQ.mk (n:=4) (w8r _) (by omega) (fun _=>by omega)⟩
          | false=>exact c1
        ·rw[if_neg q,Option.bind_some,if_neg (by decide)];exact c1
       ·split
        ·exact c1
        ·unfold F148_c0
         refine bind_tot (by repeat' (first|exact⟨_,rfl⟩|split)) fun b hb=>?_
         cases b with
         | true=>exact⟨_,rfl,EQ.mk (n:=0) (by omega) (Nat.zero_le _) (fun h=>by cases h)⟩
         | false=>exact⟨_,rfl,EQ.mk (n:=2) u1 (by omega) (fun _=>by omega)⟩
theorem takes_eq (x:Int):F118 5000 x=some (if x=0∨x=1 then 0 else if x=4∨x=5∨x=6 then 1 else if x=2∨x=3 then 2 else -1):=by
 unfold F118 F118_c2 F118_c1 F118_c0
 by_cases h0:x=0
 ·subst h0;rfl
 by_cases h1:x=1
 ·subst h1;rfl
 by_cases h2:x=2
 ·subst h2;rfl
 by_cases h3:x=3
 ·subst h3;rfl
 by_cases h4:x=4
 ·subst h4;rfl
 by_cases h5:x=5
 ·subst h5;rfl
 by_cases h6:x=6
 ·subst h6;rfl
 simp[h0,h1,h2,h3,h4,h5,h6]
def pcs (k:Int):S131:=S131.mk k (Vector.replicate 4 0)
theorem join2 {k:Int} (hk:k=2∨k=3) {a b:List S131} (ha:a.length≤100000) (hb:b.length≤100000):F117 5000 k [a,b]=some (a++b++[pcs k]):=by
 have hl:([a,b]:List (List S131)).length=2:=rfl
 have g0:lget [a,b] (0:Int)=a:=rfl
 have g1:lget [a,b] (1:Int)=b:=rfl
 have w1:w64 ((0:Int)+1)=1:=w6t (by omega) (by omega)
 have w2:w64 ((1:Int)+1)=2:=w6t (by omega) (by omega)
 have ht:F118 5000 k=some 2:=by rcases hk with rfl|rfl<;>rfl
 unfold F117
 rw[ht,Option.bind_some,hl,if_neg (by decide),Option.bind_some,decide_eq_false (by decide),if_neg (by decide),show (5000:Nat)=4997+1+1+1 from rfl,F117_l1.eq_2,hl,if_pos (by decide),if_pos (by decide),g0,if_pos (by simp;omega),w1,F117_l1.eq_2,hl,if_pos (by decide),if_pos (by decide),g1,if_pos (by simp;omega),w2,F117_l1.eq_2,hl,if_neg (by decide)]
 unfold F117_c0
 rw[if_pos (by simp;omega),List.nil_append];rfl
theorem join1 {k:Int} (hk:k=4∨k=5∨k=6) {a:List S131} (ha:a.length≤100000):F117 5000 k [a]=some (a++[pcs k]):=by
 have hl:([a]:List (List S131)).length=1:=rfl
 have g0:lget [a] (0:Int)=a:=rfl
 have w1:w64 ((0:Int)+1)=1:=w6t (by omega) (by omega)
 have ht:F118 5000 k=some 1:=by rcases hk with rfl|rfl|rfl<;>rfl
 unfold F117
 rw[ht,Option.bind_some,hl,if_neg (by decide),Option.bind_some,decide_eq_false (by decide),if_neg (by decide),show (5000:Nat)=4998+1+1 from rfl,F117_l1.eq_2,hl,if_pos (by decide),if_pos (by decide),g0,if_pos (by simp;omega),w1,F117_l1.eq_2,hl,if_neg (by decide)]
 unfold F117_c0
 rw[if_pos (by simp;omega),List.nil_append];rfl
def PR (s:ByteArray) (a:Nat) (o:Option (List S131×Bool×S140)):Prop:=
 ∃ (l:List S131) (ok:Bool) (a':Nat) (dp:Int),o=some (l,ok,S140.mk s (a':Int) dp)∧a≤a'∧a'≤s.size∧(∀ p∈l,U p.f1)∧l.length≤2*(a'-a)+1∧(ok=true→l.length+1≤2*(a'-a))
theorem PR.one {s:ByteArray} {a a':Nat} (h:a≤a') (h2:a'≤s.size) {v:Vector Int 4} (hv:U v) (k dp:Int) (b:Bool) (hb:b=true→a<a'):PR s a (some ([S131.mk k v],b,S140.mk s (a':Int) dp)):=
 ⟨_,b,a',dp,rfl,h,h2,(fun p hp=>by rw[List.mem_singleton.1 hp];exact hv),by simp,fun q=>by have:=hb q;simp;omega⟩
theorem bits_or_u8_nat (a b:Nat) (ha:a<256) (hb:b<256):bits .or .u8 (a:Int) (b:Int)=((a ||| b:Nat):Int)∧a ||| b<256:=by
 have hx:a ||| b<2 ^ 8:=Nat.or_lt_two_pow (by omega) (by omega)
 have h1:(BitVec.ofInt 8 (a:Int)).toNat=a:=by
  rw[BitVec.ofInt_natCast,BitVec.toNat_ofNat];exact Nat.mod_eq_of_lt (by omega)
 have h2:(BitVec.ofInt 8 (b:Int)).toNat=b:=by
  rw[BitVec.ofInt_natCast,BitVec.toNat_ofNat];exact Nat.mod_eq_of_lt (by omega)
 refine⟨?_,hx⟩
 show IntKind.u8.wrap ((BitVec.ofInt 8 (a:Int) ||| BitVec.ofInt 8 (b:Int)).toNat:Int)=_
 rw[BitVec.toNat_or,h1,h2]
 exact w8_id (by omega) (by omega)
def sg (L:List (Vector Int 4)) (b x:Nat):Bool:=decide (x<L.length)&&tb (L.getD x default) b
def bt (row:List Int) (x:Nat):Bool:=(row.getD (x / 8) 0).toNat.testBit (x%8)
def Row8 (L:List (Vector Int 4)) (b q i:Nat) (row:List Int):Prop:=
 row.length=q∧(∀ x∈row,0≤x∧x≤255)∧∀ x,x<8*q→bt row x=(decide (x<i)&&sg L b x)
theorem row_set {L:List (Vector Int 4)} {b q i:Nat} {row:List Int} (h:Row8 L b q i row) (hi:i<8*q) (hs:sg L b i=true):
 Row8 L b q (i+1) (lset row ((i / 8:Nat):Int) (bits .or .u8 (lget row ((i / 8:Nat):Int)) (IntKind.u8.wrap ((1:Int)*2 ^ (min (i%8) IntKind.u8.bits))))):=by
 obtain⟨h1,h2,h3⟩:=h
 have hj:i / 8<row.length:=by omega
 have el:lget row ((i / 8:Nat):Int)=row[i / 8]:=by
  unfold lget;rw[Int.toNat_natCast,List.getD,List.getElem?_eq_getElem hj];rfl
 have hb:=h2 row[i / 8] (List.getElem_mem hj)
 obtain⟨w,hw⟩:∃ w:Nat,row[i / 8]=w:=⟨row[i / 8].toNat,by omega⟩
 have hp:(2:Nat) ^ (i%8)<256:=Nat.lt_of_lt_of_le (Nat.pow_lt_pow_right (by omega) (by omega:i%8<8)) (by decide:2 ^ 8≤256)
 have e5:IntKind.u8.wrap ((1:Int)*2 ^ (min (i%8) IntKind.u8.bits))=((2 ^ (i%8):Nat):Int):=by
  rw[show min (i%8) IntKind.u8.bits=i%8 by show min (i%8) 8=i%8;omega]
  have e3:((1:Int)*2 ^ (i%8))=((2 ^ (i%8):Nat):Int):=by simp
  rw[e3]
  generalize 2 ^ (i%8)=z at hp⊢
  exact w8_id (by omega) (by omega)
 obtain⟨o1,o2⟩:=bits_or_u8_nat w (2 ^ (i%8)) (by omega) hp
 rw[el,hw,e5,o1]
 refine⟨by unfold lset;rw[List.length_set];exact h1,fun x hx=>?_,fun x hx=>?_⟩
 ·unfold lset at hx
  rcases List.mem_or_eq_of_mem_set hx with h|h
  ·exact h2 x h
  ·rw[h];omega
 ·have hb0:=h3 x hx
  unfold bt lset at *
  rw[Int.toNat_natCast]
  by_cases r:x / 8=i / 8
  ·rw[r,List.getD,List.getElem?_set_self hj]
   rw[r,List.getD,List.getElem?_eq_getElem hj,hw]at hb0
   simp only[Option.getD_some,Int.toNat_natCast]at hb0⊢
   rw[Nat.testBit_or,hb0,Nat.testBit_two_pow]
   by_cases u:x=i
   ·subst u;rw[hs];simp
   ·rw[decide_eq_false (p:=i%8=x%8) (by omega),Bool.or_false]
    congr 1
    rw[decide_eq_decide];omega
  ·rw[List.getD,List.getElem?_set_ne (fun h=>r h.symm)]
   rw[List.getD]at hb0
   rw[hb0]
   congr 1
   rw[decide_eq_decide]
   have:x≠i:=fun h=>r (by rw[h])
   omega
theorem row_skip {L:List (Vector Int 4)} {b q i:Nat} {row:List Int} (h:Row8 L b q i row) (hs:sg L b i=false):Row8 L b q (i+1) row:=by
 obtain⟨h1,h2,h3⟩:=h
 refine⟨h1,h2,fun x hx=>?_⟩
 rw[h3 x hx]
 by_cases u:x=i
 ·subst u;rw[hs];simp
 ·congr 1
  rw[decide_eq_decide];omega
theorem key_l (L:List (Vector Int 4)) (hL:∀ a∈L,U a) (b:Nat) (hb:b<256) (q:Nat) (hq:L.length≤8*q) (hz:q≤1000):∀ (m i fuel:Nat) (row:List Int),i+m=L.length→m<fuel→Row8 L b q i row→
 ∃ row',F122_l2 5000 L (b:Int) fuel row i=some (strOfNums row')∧Row8 L b q L.length row'
 | 0,i,f+1,row,h,_,hr=>by
   rw[F122_l2.eq_2,if_neg (by omega),F122_c0]
   exact⟨row,rfl,by rw[show L.length=i by omega];exact hr⟩
 | m+1,i,f+1,row,h,hf,hr=>by
   have hi:i<L.length:=by omega
   have g:0≤(i:Int)∧(i:Int)<(L.length:Int):=⟨by omega,by omega⟩
   have eb:lget L (i:Int)=L[i]:=by
    unfold lget;rw[show (i:Int).toNat=i by omega,List.getD,List.getElem?_eq_getElem hi];rfl
   have ed:L.getD i default=L[i]:=by rw[List.getD,List.getElem?_eq_getElem hi];rfl
   have hs:sg L b i=tb L[i] b:=by unfold sg;rw[decide_eq_true hi,Bool.true_and,ed]
   have e1:IntKind.i64.wrap ((i:Int).tdiv 8)=((i / 8:Nat):Int):=by
    have h1:(i:Int).tdiv 8=((i / 8:Nat):Int):=by rw[Int.tdiv_eq_ediv_of_nonneg (by omega)];omega
    rw[h1];have:=w64_id (n:=((i / 8:Nat):Int)) (by omega) (by omega);exact this
   have e2:u64 ((i:Int).tmod 8)=((i%8:Nat):Int):=by
    have h1:(i:Int).tmod 8=((i%8:Nat):Int):=by rw[Int.tmod_eq_emod_of_nonneg (by omega)];omega
    rw[h1,u64_eq];omega
   have hlen:=hr.1
   rw[F122_l2.eq_2,if_pos g.2,if_pos g,eb,has_eq (hL _ (List.getElem_mem hi)) hb,Option.bind_some]
   by_cases t:tb L[i] b=true
   ·rw[if_pos t,e1,e2,if_pos ⟨by omega,by omega⟩,if_pos (by omega),if_pos ⟨by omega,by omega⟩,Int.toNat_natCast]
    unfold F122_c1
    rw[w64_id (by omega) (by omega)]
    have:=key_l L hL b hb q hq hz m (i+1) f _ (by omega) (by omega) (row_set hr (by omega) (by rw[hs];exact t))
    exact_mod_cast this
   ·rw[if_neg t]
    unfold F122_c1
    rw[w64_id (by omega) (by omega)]
    have:=key_l L hL b hb q hq hz m (i+1) f row (by omega) (by omega) (row_skip hr (by rw[hs];simpa using t))
    exact_mod_cast this
theorem key_eq (L:List (Vector Int 4)) (hL:∀ a∈L,U a) (hn:L.length≤1000) (b:Nat) (hb:b<256):∃ row,F122 5000 L (b:Int)=some (strOfNums row)∧Row8 L b ((L.length+7) / 8) L.length row:=by
 have e:IntKind.i64.wrap ((w64 ((L.length:Int)+7)).tdiv 8)=(((L.length+7) / 8:Nat):Int):=by
  rw[w64_id (by omega) (by omega)]
  have h1:((L.length:Int)+7).tdiv 8=(((L.length+7) / 8:Nat):Int):=by rw[Int.tdiv_eq_ediv_of_nonneg (by omega)];omega
  rw[h1];have:=w64_id (n:=(((L.length+7) / 8:Nat):Int)) (by omega) (by omega);exact this
 unfold F122
 rw[e,if_pos ⟨by omega,by omega,by omega⟩,Int.toNat_natCast]
 have:=key_l L hL b hb ((L.length+7) / 8) (by omega) (by omega) L.length 0 5000 (List.replicate ((L.length+7) / 8) 0) (by omega) (by omega) ⟨by simp,fun x hx=>by rw[(List.mem_replicate.1 hx).2];omega,fun x hx=>by
  unfold bt
  rw[List.getD,List.getElem?_replicate,if_pos (by omega)];simp⟩
 exact this
theorem row_iff {L:List (Vector Int 4)} {b c q:Nat} (hq:L.length≤8*q) {r s:List Int} (hr:Row8 L b q L.length r) (hs:Row8 L c q L.length s):strOfNums r=strOfNums s↔∀ x,sg L b x=sg L c x:=by
 constructor
 ·intro h x
  have e:=strOf_inj hr.2.1 hs.2.1 h
  by_cases hx:x<L.length
  ·have h1:=hr.2.2 x (by omega)
   have h2:=hs.2.2 x (by omega)
   rw[e,h2,decide_eq_true hx,Bool.true_and,Bool.true_and]at h1
   exact h1.symm
  ·unfold sg;rw[decide_eq_false hx];rfl
 ·intro h
  congr 1
  apply List.ext_getElem (by rw[hr.1,hs.1])
  intro j h1 h2
  have b1:=hr.2.1 r[j] (List.getElem_mem h1)
  have b2:=hs.2.1 s[j] (List.getElem_mem h2)
  have:r[j].toNat=s[j].toNat:=by
   apply Nat.eq_of_testBit_eq
   intro t
   by_cases ht:t<8
   ·have k1:=hr.2.2 (8*j+t) (by have:=hr.1;omega)
    have k2:=hs.2.2 (8*j+t) (by have:=hr.1;omega)
    rw[h]at k1
    rw[←k2]at k1
    unfold bt at k1
    rw[show (8*j+t) / 8=j by omega,show (8*j+t)%8=t by omega,List.getD,List.getD,List.getElem?_eq_getElem h1,List.getElem?_eq_getElem h2]at k1
    exact k1
   ·have hp:256≤2 ^ t:=Nat.le_trans (by decide:256≤2 ^ 8) (Nat.pow_le_pow_right (by omega) (by omega))
    rw[Nat.testBit_lt_two_pow (by omega),Nat.testBit_lt_two_pow (by omega)]
  omega
def rcf (e:Nat→Bool) (b:Nat):Nat→Nat→Nat
 | 0,_=>b
 | f+1,i=>if e i=true then i else rcf e b f (i+1)
theorem rcf_spec (e:Nat→Bool) (b:Nat) (hb:e b=true):∀ (f i:Nat),i+f=b→rcf e b f i≤b∧i≤rcf e b f i∧e (rcf e b f i)=true∧∀ c,i≤c→c<rcf e b f i→e c=false
 | 0,i,h=>by rw[rcf];exact⟨by omega,by omega,hb,fun c h1 h2=>by omega⟩
 | f+1,i,h=>by
   rw[rcf]
   by_cases q:e i=true
   ·rw[if_pos q];exact⟨by omega,by omega,q,fun c h1 h2=>by omega⟩
   ·rw[if_neg q]
    obtain⟨h1,h2,h3,h4⟩:=rcf_spec e b hb f (i+1) (by omega)
    refine⟨h1,by omega,h3,fun c k1 k2=>?_⟩
    by_cases r:c=i
    ·subst r;simpa using q
    ·exact h4 c (by omega) k2
section
variable (kk:Nat→ByteArray)
def rc (b:Nat):Nat:=rcf (fun c=>decide (kk c=kk b)) b b 0
theorem rc_spec (b:Nat):rc kk b≤b∧kk (rc kk b)=kk b∧∀ c,c<rc kk b→kk c≠kk b:=by
 obtain⟨h1,h2,h3,h4⟩:=rcf_spec (fun c=>decide (kk c=kk b)) b (by simp) b 0 (by omega)
 exact⟨h1,of_decide_eq_true h3,fun c hc=>of_decide_eq_false (h4 c (by omega) hc)⟩
theorem rc_uniq {b r:Nat} (h1:kk r=kk b) (h2:∀ c,c<r→kk c≠kk b):rc kk b=r:=by
 obtain⟨k1,k2,k3⟩:=rc_spec kk b
 rcases Nat.lt_trichotomy (rc kk b) r with h|h|h
 ·exact absurd k2 (h2 _ h)
 ·exact h
 ·exact absurd h1 (k3 _ h)
theorem rc_same {b c:Nat} (h:kk c=kk b):rc kk c=rc kk b:=by
 obtain⟨k1,k2,k3⟩:=rc_spec kk b
 exact rc_uniq kk (by rw[k2,h]) (fun d hd=>by rw[h];exact k3 d hd)
theorem rc_rc (b:Nat):rc kk (rc kk b)=rc kk b:=rc_same kk (rc_spec kk b).2.1
def nc:Nat→Nat
 | 0=>0
 | b+1=>nc b+if rc kk b=b then 1 else 0
theorem nc_le (b:Nat):nc kk b≤b:=by
 induction b with
 | zero=>exact Nat.le_refl _
 | succ b ih=>rw[nc];split<;>omega
theorem nc_mono {b c:Nat} (h:b≤c):nc kk b≤nc kk c:=by
 induction h with
 | refl=>exact Nat.le_refl _
 | step _ ih=>rw[nc];omega
def ck (b:Nat):Nat:=nc kk (rc kk b)
theorem ck_same {b c:Nat} (h:kk c=kk b):ck kk c=ck kk b:=by unfold ck;rw[rc_same kk h]
theorem ck_le (b:Nat):ck kk b≤b:=Nat.le_trans (nc_le kk _) (rc_spec kk b).1
theorem vget_vset256 (v:Vector Int 256) (i j:Nat) (x:Int) (hi:i<256) (hj:j<256):vget (vset v (i:Int) x) (j:Int)=if j=i then x else vget v (j:Int):=by
 unfold vget vset
 rw[Int.toNat_natCast,Int.toNat_natCast,Vector.toList_setIfInBounds,List.getD,List.getD,List.getElem?_set]
 by_cases e:i=j
 ·subst e;rw[if_pos rfl,if_pos rfl,if_pos (by simpa using hi)];rfl
 ·rw[if_neg e,if_neg (fun h=>e h.symm)]
def MapOK (b:Nat) (m:List (ByteArray×Int)):Prop:=
 m.length=nc kk b∧(∀ c,c<b→mget m (kk c)=some (ck kk c:Int))∧∀ s,(∀ c,c<b→kk c≠s)→mget m s=none
theorem bclasses_l {L:List (Vector Int 4)} (hk:∀ b:Nat,b<256→F122 5000 L (b:Int)=some (kk b)):∀ (m b fuel:Nat) (v:Vector Int 256) (mp:List (ByteArray×Int)),b+m=256→m<fuel→MapOK kk b mp→(∀ c,c<b→vget v (c:Int)=(ck kk c:Int))→
 ∃ v',F96_l2 5000 L fuel v mp b=some v'∧∀ c:Nat,c<256→vget v' (c:Int)=(ck kk c:Int)
 | 0,b,f+1,v,mp,h,_,_,hv=>by
   rw[F96_l2.eq_2,if_neg (by omega),F96_c0]
   exact⟨v,rfl,fun c hc=>hv c (by omega)⟩
 | m+1,b,f+1,v,mp,h,hf,hm,hv=>by
   have hb:b<256:=by omega
   have hcl:=ck_le kk b
   have fin:∀ mp',MapOK kk (b+1) mp'→∃ v',F96_c1 5000 (F96_l2 5000 L f) v (b:Int) mp' (ck kk b:Int)=some v'∧∀ c:Nat,c<256→vget v' (c:Int)=(ck kk c:Int):=by
    intro mp' hm'
    unfold F96_c1
    rw[if_pos ⟨by omega,by omega⟩,w8_id (by omega) (by omega),w64_id (by omega) (by omega)]
    have:=bclasses_l hk m (b+1) f (vset v (b:Int) (ck kk b:Int)) mp' (by omega) (by omega) hm' (fun c hc=>by
     rw[vget_vset256 _ _ _ _ hb (by omega)]
     by_cases q:c=b
     ·subst q;rw[if_pos rfl]
     ·rw[if_neg q];exact hv c (by omega))
    exact_mod_cast this
   rw[F96_l2.eq_2,if_pos (by omega),w8_id (by omega) (by omega),hk b hb,Option.bind_some]
   obtain⟨r1,r2,r3⟩:=rc_spec kk b
   obtain⟨m1,m2,m3⟩:=hm
   by_cases q:rc kk b=b
   ·have hn:mget mp (kk b)=none:=m3 _ (fun c hc=>r3 c (by omega))
    have hc:ck kk b=nc kk b:=by unfold ck;rw[q]
    rw[hn,if_pos (by rfl),m1, ←hc]
    refine fin _ ⟨?_,fun c hc'=>?_,fun s hs=>?_⟩
    ·rw[mput_none hn,List.length_append,m1,nc,if_pos q];rfl
    ·rw[mget_mput]
     by_cases r:c=b
     ·subst r;rw[if_pos rfl]
     ·rw[if_neg (fun h=>r3 c (by omega) h.symm),m2 c (by omega)]
    ·rw[mget_mput,if_neg (hs b (by omega)),m3 s (fun c hc=>hs c (by omega))]
   ·have hg:mget mp (kk b)=some (ck kk b:Int):=by
     rw[←r2,m2 _ (by omega),ck_same kk r2]
    rw[hg,if_neg (by simp)]
    refine fin mp ⟨by rw[m1,nc,if_neg q];rfl,fun c hc'=>?_,fun s hs=>m3 s (fun c hc=>hs c (by omega))⟩
    by_cases r:c=b
    ·subst r;exact hg
    ·exact m2 c (by omega)
theorem bcount_l (v:Vector Int 256) (hv:∀ c:Nat,c<256→vget v (c:Int)=(ck kk c:Int)):∀ (m b fuel:Nat),b+m=256→m<fuel→F101_l1 5000 v fuel (nc kk b:Int) (b:Int)=some (nc kk 256:Int)
 | 0,b,f+1,h,_=>by
   rw[F101_l1.eq_2,if_neg (by omega),F101_c0,show b=256 by omega]
 | m+1,b,f+1,h,hf=>by
   have hb:b<256:=by omega
   have hcl:=ck_le kk b
   have hnl:=nc_le kk b
   rw[F101_l1.eq_2,if_pos (by omega),if_pos ⟨by omega,by omega⟩,hv b hb,w64_id (n:=(ck kk b:Int)) (by omega) (by omega),w64_id (n:=(ck kk b:Int)+1) (by omega) (by omega),w64_id (by omega) (by omega)]
   have e:max (nc kk b:Int) ((ck kk b:Int)+1)=(nc kk (b+1):Int):=by
    obtain⟨r1,r2,r3⟩:=rc_spec kk b
    by_cases q:rc kk b=b
    ·have:ck kk b=nc kk b:=by unfold ck;rw[q]
     rw[nc,if_pos q,this];omega
    ·have h1:nc kk (rc kk b+1)≤nc kk b:=nc_mono kk (by omega)
     rw[nc,if_pos (rc_rc kk b)]at h1
     have h2:ck kk b+1≤nc kk b:=h1
     rw[nc,if_neg q];omega
   rw[e]
   have:=bcount_l v hv m (b+1) f (by omega) (by omega)
   exact_mod_cast this
end
theorem lget_lset (l:List Bool) (i q:Int) (h0:0≤i) (h1:i<(l.length:Int)) (hq:0≤q):lget (lset l i true) q=(decide (q=i)||lget l q):=by
 unfold lget lset
 rw[List.getD,List.getD,List.getElem?_set]
 by_cases e:i.toNat=q.toNat
 ·rw[if_pos e,if_pos (by omega),decide_eq_true (by omega)];rfl
 ·rw[if_neg e,decide_eq_false (by omega)];rfl
theorem lget_rep (N:Nat) (q:Int):lget (List.replicate N false) q=false:=by
 unfold lget
 rw[List.getD,List.getElem?_replicate]
 split<;>rfl
inductive FR (l:List S152):Int→Int→Prop
 | refl (p:Int):FR l p p
 | tail {p:Int} {e:S152}:FR l p e.f0→e∈l→e.f3=true→FR l p e.f1
theorem FR.trans {l:List S152} {p q r:Int} (h:FR l p q) (k:FR l q r):FR l p r:=by
 induction k with
 | refl=>exact h
 | tail _ he hf ih=>exact .tail ih he hf
def Snd (L:List S152) (x o:List Bool):Prop:=∀ q:Int,0≤q→lget o q=true→∃ p,0≤p∧lget x p=true∧FR L p q
theorem st1_snd {L:List S152} {x:List Bool} {s:List Bool×Bool} {e:S152} (he:e∈L) (h0:0≤e.f0) (h1:0≤e.f1∧e.f1<(s.1.length:Int)) (h:Snd L x s.1):Snd L x (st1 s e).1:=by
 unfold st1
 split
 ·rename_i c
  intro q hq hg
  simp only[]at hg
  rw[lget_lset s.1 e.f1 q h1.1 h1.2 hq,Bool.or_eq_true,decide_eq_true_eq]at hg
  rcases hg with rfl|hg
  ·obtain⟨p,p1,p2,p3⟩:=h e.f0 h0 c.2.1
   exact⟨p,p1,p2,.tail p3 he c.1⟩
  ·exact h q hq hg
 ·exact h
theorem pass_snd {L:List S152} {x:List Bool} {N:Int}:∀ (l:List S152) (s:List Bool×Bool),(∀ e∈l,e∈L∧0≤e.f0∧0≤e.f1∧e.f1<N)→(s.1.length:Int)=N→Snd L x s.1→Snd L x (pass l s).1
 | [],s,_,_,h=>h
 | e::l,s,hl,hs,h=>by
   have he:=hl e (by simp)
   show Snd L x (pass l (st1 s e)).1
   exact pass_snd l _ (fun e' h'=>hl e' (by simp[h'])) (by rw[st1_len];exact hs) (st1_snd he.1 he.2.1 ⟨he.2.2.1,by rw[hs];exact he.2.2.2⟩ h)
theorem st1_mono {s:List Bool×Bool} {e:S152} (h1:0≤e.f1∧e.f1<(s.1.length:Int)) {q:Int} (hq:0≤q) (h:lget s.1 q=true):lget (st1 s e).1 q=true:=by
 unfold st1
 split
 ·show lget (lset s.1 e.f1 true) q=true
  rw[lget_lset s.1 e.f1 q h1.1 h1.2 hq,h,Bool.or_true]
 ·exact h
theorem pass_mono {N:Int} {q:Int} (hq:0≤q):∀ (l:List S152) (s:List Bool×Bool),(∀ e∈l,0≤e.f1∧e.f1<N)→(s.1.length:Int)=N→lget s.1 q=true→lget (pass l s).1 q=true
 | [],s,_,_,h=>h
 | e::l,s,hl,hs,h=>by
   show lget (pass l (st1 s e)).1 q=true
   exact pass_mono hq l _ (fun e' h'=>hl e' (by simp[h'])) (by rw[st1_len];exact hs) (st1_mono (by rw[hs];exact hl e (by simp)) hq h)
theorem pass_flag:∀ (l:List S152) (s:List Bool×Bool),s.2=true→(pass l s).2=true
 | [],s,h=>h
 | e::l,s,h=>by
   show (pass l (st1 s e)).2=true
   refine pass_flag l _ ?_
   unfold st1
   split
   ·rfl
   ·exact h
theorem pass_closed:∀ (l:List S152) (x:List Bool),(pass l (x,false)).2=false→(pass l (x,false)).1=x∧∀ e∈l,e.f3=true→lget x e.f0=true→lget x e.f1=true
 | [],x,_=>⟨rfl,fun e he=>by cases he⟩
 | e::l,x,h=>by
   have h':(pass l (st1 (x,false) e)).2=false:=h
   show (pass l (st1 (x,false) e)).1=x∧_
   have hs:st1 (x,false) e=(x,false)∧¬ (e.f3=true∧lget x e.f0=true∧lget x e.f1=false):=by
    by_cases c:e.f3=true∧lget x e.f0=true∧lget x e.f1=false
    ·have hf:(st1 (x,false) e).2=true:=by unfold st1;rw[if_pos c]
     rw[pass_flag l _ hf]at h';cases h'
    ·exact⟨by unfold st1;rw[if_neg c],c⟩
   rw[hs.1]at h'⊢
   obtain⟨k1,k2⟩:=pass_closed l x h'
   refine⟨k1,fun e' he' f1 f2=>?_⟩
   rcases List.mem_cons.1 he' with rfl|he'
   ·cases q:lget x e'.f1 with
    | true=>rfl
    | false=>exact absurd ⟨f1,f2,q⟩ hs.2
   ·exact k2 e' he' f1 f2
theorem cl_snd {n:S121} (h:Rt n) {x0:List Bool}:∀ (k:Nat) (x:List Bool),x.length=NN n→Snd n.f1 x0 x→Snd n.f1 x0 (cl n.f1 k x)
 | 0,x,_,hs=>hs
 | k+1,x,hx,hs=>by
   have hnn:=h.nn
   have hp:=pass_snd (L:=n.f1) (x:=x0) (N:=n.f0) n.f1 (x,false) (fun e he=>⟨he,(h.ed e he).1,(h.ed e he).2.2.1,(h.ed e he).2.2.2⟩) (by show (x.length:Int)=_;omega) hs
   rw[cl]
   split
   ·exact cl_snd h k _ ((pass_len _ _).trans hx) hp
   ·exact hp
theorem cl_mono {n:S121} (h:Rt n) {q:Int} (hq:0≤q):∀ (k:Nat) (x:List Bool),x.length=NN n→lget x q=true→lget (cl n.f1 k x) q=true
 | 0,x,_,hs=>hs
 | k+1,x,hx,hs=>by
   have hnn:=h.nn
   have hp:=pass_mono (N:=n.f0) hq n.f1 (x,false) (fun e he=>⟨(h.ed e he).2.2.1,(h.ed e he).2.2.2⟩) (by show (x.length:Int)=_;omega) hs
   rw[cl]
   split
   ·exact cl_mono h hq k _ ((pass_len _ _).trans hx) hp
   ·exact hp
theorem cl_closed {n:S121} (h:Rt n):∀ (k:Nat) (x:List Bool),x.length=NN n→NN n-cnt x<k→∀ e∈n.f1,e.f3=true→lget (cl n.f1 k x) e.f0=true→lget (cl n.f1 k x) e.f1=true
 | 0,x,_,hk=>by omega
 | k+1,x,hx,hk=>by
   have hnn:=h.nn
   rw[cl]
   split
   ·rename_i q
    have hp:=pass_len n.f1 (x,false)
    have hp':(pass n.f1 (x,false)).1.length=x.length:=hp
    have hle:=cnt_le (pass n.f1 (x,false)).1
    rcases pass_cnt n.f0 n.f1 (x,false) (fun e he=>⟨(h.ed e he).2.2.1,(h.ed e he).2.2.2⟩) (by show (x.length:Int)=_;omega)with r|⟨_,r⟩
    ·rw[r]at q;cases q
    ·have r':cnt x<cnt (pass n.f1 (x,false)).1:=r
     exact cl_closed h k _ (hp'.trans hx) (by rw[hp']at hle;omega)
   ·rename_i q
    obtain⟨k1,k2⟩:=pass_closed n.f1 x (by simpa using q)
    rw[k1];exact k2
theorem CL_iff {n:S121} (h:Rt n) {x:List Bool} (hx:x.length=NN n) {q:Int} (hq:0≤q):lget (CL n x) q=true↔∃ p,0≤p∧lget x p=true∧FR n.f1 p q:=by
 constructor
 ·intro hg
  exact cl_snd h (NN n+1) x hx (fun q h0 h1=>⟨q,h0,h1,.refl q⟩) q hq hg
 ·rintro⟨p,p0,p1,p2⟩
  have base:=cl_mono h p0 (NN n+1) x hx p1
  have key:∀ r,FR n.f1 p r→lget (CL n x) r=true:=by
   intro r hr
   induction hr with
   | refl=>exact base
   | tail _ he hf ih=>exact cl_closed h (NN n+1) x hx (by omega) _ he hf ih
  exact key q p2
theorem mvf_iff (x:List Bool) (b:Nat) {N:Int} {q:Int} (hq:0≤q):∀ (l:List S152) (o:List Bool),(∀ e∈l,0≤e.f1∧e.f1<N)→(o.length:Int)=N→
 (lget (l.foldl (mv1 x b) o) q=true↔lget o q=true∨∃ e∈l,e.f3=false∧e.f0<(x.length:Int)∧lget x e.f0=true∧tb e.f2 b=true∧e.f1=q)
 | [],o,_,_=>by simp
 | e::l,o,hl,ho=>by
   have he:=hl e (by simp)
   have ih:=mvf_iff x b hq l (mv1 x b o e) (fun e' h'=>hl e' (by simp[h'])) (by rw[mv1_len];exact ho)
   rw[List.foldl_cons,ih]
   have h1:lget (mv1 x b o e) q=true↔lget o q=true∨(e.f3=false∧e.f0<(x.length:Int)∧lget x e.f0=true∧tb e.f2 b=true∧e.f1=q):=by
    unfold mv1
    split
    ·rename_i c
     rw[lget_lset o e.f1 q he.1 (by rw[ho];exact he.2) hq,Bool.or_eq_true,decide_eq_true_eq]
     constructor
     ·rintro (r|r)
      ·exact .inr ⟨c.1,c.2.1,c.2.2.1,c.2.2.2,r.symm⟩
      ·exact .inl r
     ·rintro (r|r)
      ·exact .inr r
      ·exact .inl r.2.2.2.2.symm
    ·rename_i c
     exact⟨.inl,fun r=>r.elim id fun r=>absurd ⟨r.1,r.2.1,r.2.2.1,r.2.2.2.1⟩ c⟩
   rw[h1,or_assoc]
   simp[List.mem_cons,or_and_right,exists_or]
theorem MV_iff {n:S121} (h:Rt n) (x:List Bool) (b:Nat) {q:Int} (hq:0≤q):lget (MV n x b) q=true↔∃ e∈n.f1,e.f3=false∧e.f0<(x.length:Int)∧lget x e.f0=true∧tb e.f2 b=true∧e.f1=q:=by
 have hnn:=h.nn
 have:=mvf_iff x b (N:=n.f0) hq n.f1 (List.replicate (NN n) false) (fun e he=>⟨(h.ed e he).2.2.1,(h.ed e he).2.2.2⟩) (by rw[List.length_replicate];omega)
 unfold MV
 rw[this,lget_rep];simp
inductive Rch (n:S121) (s:ByteArray):Nat→Int→Prop
 | start:Rch n s 0 n.f2
 | free {i:Nat} {e:S152}:Rch n s i e.f0→e∈n.f1→e.f3=true→Rch n s i e.f1
 | byte {i:Nat} {e:S152}:Rch n s i e.f0→e∈n.f1→e.f3=false→tb e.f2 (byteAt s i).toNat=true→Rch n s (i+1) e.f1
theorem Rch.fr {n:S121} {s:ByteArray} {i:Nat} {p q:Int} (h:Rch n s i p) (k:FR n.f1 p q):Rch n s i q:=by
 induction k with
 | refl=>exact h
 | tail _ he hf ih=>exact .free ih he hf
theorem Rch.in {n:S121} (h:Rt n) {s:ByteArray} {i:Nat} {q:Int} (k:Rch n s i q):0≤q∧q<n.f0:=by
 cases k with
 | start=>exact h.first
 | free _ he _=>exact(h.ed _ he).2.2
 | byte _ he _ _=>exact(h.ed _ he).2.2
end Go.Avl.T7
