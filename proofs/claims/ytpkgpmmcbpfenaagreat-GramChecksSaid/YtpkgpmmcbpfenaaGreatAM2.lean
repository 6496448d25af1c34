/- Parts: TCG3, TCP6, TCE2, TCR1, TCR2, TCE7, TCE8, TCE9, TCEA. -/
import Derived.Test.YtpkgpmmcbpfenaaGreatAM1
import Derived.Test.YtpkgpmmcbpfenaaGreatAF1
import Derived.Test.YtpkgpmmcbpfenaaGreatAF5
import Derived.Test.YtpkgpmmcbpfenaaGreatAF7
import Derived.Laws.Bits64b
import Derived.Test.YtpkgpmmcbpfenaaGreatAF2
import Derived.Test.YtpkgpmmcbpfenaaGreatAF6
import Derived.Test.YtpkgpmmcbpfenaaGreatAF3
namespace Go.Avl.TC
open Go Go.RowKit Go.Proofs Go.Avl
set_option linter.all false
set_option maxRecDepth 10000
def idx (n:Nat):List Int:=(List.range n).map Int.ofNat
theorem Eu (n:Nat):(idx n).length=n:=by simp[idx]
theorem Lw {n i:Nat} (h:i<(idx n).length):(idx n)[i]=(i:Int):=by simp[idx]
theorem Lk {n:Nat} {x:Int} (h:x∈idx n):0≤x∧x<(n:Int):=by
 obtain⟨i,hi,rfl⟩:=List.mem_map.1 h;have:=List.mem_range.1 hi;exact⟨by show (0:Int)≤(i:Int);omega,by show (i:Int)<_;omega⟩
def GX (p:Int→Bool) (L:List Int):Int:=(L.find? p).getD (-1)
theorem Jr {p:Int→Bool} {L:List Int} (h:∀ x∈L,0≤x):(GX p L<0∧L.find? p=none∧GX p L= -1)∨(0≤GX p L∧L.find? p=some (GX p L)∧GX p L∈L∧p (GX p L)=true):=by
 unfold GX
 cases e:L.find? p with
 | none=>left;simp
 | some x=>
   right;have hm:=List.mem_of_find?_eq_some e;have hp:=List.find?_some e;exact⟨by simpa using h x hm,by simp,by simpa using hm,by simpa using hp⟩
theorem ID {β:Type} {L:List Int} {p:Int→Bool} {f:Nat→Int→Option β} {r:Int→Option β} {c:Option β}
 (hs:∀ j (i:Nat) (h:i<L.length),f (j+1) (i:Int)=if p L[i]=true then r L[i]else f j ((i+1:Nat):Int)) (he:∀ j,f (j+1) (L.length:Int)=c):
 ∀ (m i fuel:Nat),i+m=L.length→m<fuel→f fuel (i:Int)=match (L.drop i).find? p with |some x=>r x|none=>c
 | 0,i,fu+1,hi,_=>by
   obtain rfl:i=L.length:=by omega
   rw[he fu,List.drop_of_length_le (Nat.le_refl _)];rfl
 | m+1,i,fu+1,hi,hf=>by
   have hi':i<L.length:=by omega
   rw[hs fu i hi',List.drop_eq_getElem_cons hi',List.find?];by_cases q:p L[i]=true
   ·rw[if_pos q,q]
   ·rw[if_neg q,Bool.eq_false_iff.2 q];exact ID hs he m (i+1) fu (by omega) (by omega)
theorem MC {L:List Int} {p:Int→Bool} {f:Nat→Int→Option Int} (hL:∀ x∈L,0≤x) (hz:L.length≤4000)
 (hs:∀ j (i:Nat) (h:i<L.length),f (j+1) (i:Int)=if p L[i]=true then some L[i]else f j ((i+1:Nat):Int)) (he:∀ j,f (j+1) (L.length:Int)=some (-1)):f 20000 (0:Int)=some (GX p L):=by
 have:=ID hs he L.length 0 20000 (by omega) (by omega);rw[List.drop_zero]at this;have e:f 20000 (0:Int)=_:=this;rw[e];rcases Jr (p:=p) hL with⟨a,b,c⟩|⟨a,b,c,d⟩
 ·rw[b,c]
 ·rw[b]
theorem Ky {n:Nat}:∀ x∈idx n,0≤x:=fun x h=>(Lk h).1
def RA (l:List B7) (s:ByteArray):Int:=GX (fun x=>decide ((AC l x).f0=s)) (idx l.length)
def PU (l:List ByteArray) (s:ByteArray):Int:=GX (fun x=>decide (AC l x=s)) (idx l.length)
theorem O8 (l:List B7) (s:ByteArray) (hz:l.length≤1000):UY 20000 l s=some (RA l s):=by
 refine MC (f:=EB 20000 l s) Ky (by rw[Eu];omega) (fun j i h=>?_) (fun j=>?_)
 ·rw[Lw h];rw[Eu]at h;rw[EB.eq_2,if_pos (by omega),if_pos ⟨by omega,by omega⟩,B9 (by omega)];simp only[decide_eq_true_eq]
 ·rw[Eu,EB.eq_2,if_neg (by omega)];rfl
theorem NC (l:List ByteArray) (s:ByteArray) (hz:l.length≤1000):UT 20000 l s=some (PU l s):=by
 refine MC (f:=D8 20000 l s) Ky (by rw[Eu];omega) (fun j i h=>?_) (fun j=>?_)
 ·rw[Lw h];rw[Eu]at h;rw[D8.eq_2,if_pos (by omega),if_pos ⟨by omega,by omega⟩,B9 (by omega)];simp only[decide_eq_true_eq];by_cases q:s=AC l (i:Int)
  ·rw[if_pos q,if_pos q.symm]
  ·rw[if_neg q,if_neg fun e=>q e.symm]
 ·rw[Eu,D8.eq_2,if_neg (by omega)];rfl
def Mj (g:A6) (s:A7):Bool:=if s.f0=true then decide (0≤s.f1∧s.f1<(g.f1.length:Int))else decide (0≤s.f1∧s.f1<(g.f0.length:Int)∧(AC g.f0 s.f1).f1=0)
theorem Er (g:A6) (s:A7) (k:Nat):RO k g s=some (Mj g s):=by
 unfold RO Mj;by_cases c:s.f0=true
 ·rw[if_pos c,if_pos c];by_cases a:0≤s.f1
  ·rw[if_pos a];simp[a]
  ·rw[if_neg a];simp[a]
 ·rw[if_neg c,if_neg c];by_cases a:0≤s.f1
  ·rw[if_pos a];by_cases b:s.f1<(g.f0.length:Int)
   ·rw[if_pos b,if_pos ⟨a,b⟩];simp[a,b]
   ·rw[if_neg b];simp[b]
  ·rw[if_neg a];simp[a]
theorem HP (g:A6) (s:A7) (k:Nat):Sk k g s=some (Mj g s):=Er g s k
def nm (g:A6) (s:A7):ByteArray:=if s.f1<0 then ByteArray.mk #[63]else if s.f0=true then(if s.f1<(g.f1.length:Int)then AC g.f1 s.f1 else ByteArray.mk #[63])else(if s.f1<(g.f0.length:Int)then(AC g.f0 s.f1).f0 else ByteArray.mk #[63])
theorem LP (p:Dx):∃ b,Tv 20000 p=some b∧UJ 20000 p=some b:=by
 unfold Tv UJ;by_cases c:(p.f2.length:Int)=3
 ·have g0:(0:Int)≤0∧(0:Int)<(p.f2.length:Int):=⟨by omega,by omega⟩;have g1:(0:Int)≤1∧(1:Int)<(p.f2.length:Int):=⟨by omega,by omega⟩;have g2:(0:Int)≤2∧(2:Int)<(p.f2.length:Int):=⟨by omega,by omega⟩;rw[if_pos c,if_pos c,if_pos g0,if_pos g0];by_cases d:(!(AC p.f2 (0:Int)).f0)=true
  ·rw[if_pos d,if_pos d,if_pos g1,if_pos g1,if_pos g1,if_pos g2];have e:AC p.f2 (1:Int)=A7.mk true p.f0↔(AC p.f2 (1:Int)).f0=true∧(AC p.f2 (1:Int)).f1=p.f0:=by
    generalize AC p.f2 (1:Int)=x;cases x;simp
   by_cases u:(AC p.f2 (1:Int)).f0=true
   ·rw[if_pos u];by_cases v:(AC p.f2 (1:Int)).f1=p.f0
    ·rw[if_pos v,if_pos (e.2 ⟨u,v⟩)];exact⟨_,rfl,rfl⟩
    ·rw[if_neg v,if_neg fun k=>v (e.1 k).2];exact⟨_,rfl,rfl⟩
   ·rw[if_neg u,if_neg fun k=>u (e.1 k).1];exact⟨_,rfl,rfl⟩
  ·rw[if_neg d,if_neg d];exact⟨_,rfl,rfl⟩
 ·rw[if_neg c,if_neg c];exact⟨_,rfl,rfl⟩
def He (s:ByteArray):Bool:=(Mz 20000 s).getD false
theorem G8 (s:ByteArray):Mz 20000 s=some (He s):=by
 obtain⟨b,hb⟩:=KH s;unfold He;rw[hb];rfl
theorem Jt (l:List ByteArray) (s:ByteArray) (hz:l.length≤1000):Sr 20000 l s=some (decide (0≤PU l s)):=by
 unfold Sr;rw[NC l s hz,Option.bind_some]
theorem Og {α:Type} (l:List α) (q:Nat):(Bd l 0 (q:Int)).length≤l.length:=by unfold Bd;simp;omega
theorem Fs {β:Type} {f:Nat→Int→Option β} {n:Nat} {P:Nat→Prop} {c d:Option β} (hs:∀ j (i:Nat),i<n→(P i→f (j+1) (i:Int)=f j ((i+1:Nat):Int))∧(¬ P i→f (j+1) (i:Int)=d)) (he:∀ j,f (j+1) (n:Int)=c):
 ∀ (m i fuel:Nat),i+m=n→m<fuel→((∀ q,i≤q→q<n→P q)→f fuel (i:Int)=c)∧((¬ ∀ q,i≤q→q<n→P q)→f fuel (i:Int)=d)
 | 0,i,fu+1,hi,_=>by
   obtain rfl:i=n:=by omega
   exact⟨fun _=>he fu,fun h=>absurd (fun q h1 h2=>by omega) h⟩
 | m+1,i,fu+1,hi,hf=>by
   obtain⟨ih1,ih2⟩:=Fs hs he m (i+1) fu (by omega) (by omega);obtain⟨s1,s2⟩:=hs fu i (by omega);refine⟨fun h=>?_,fun h=>?_⟩
   ·rw[s1 (h i (Nat.le_refl _) (by omega))];exact ih1 fun q h1 h2=>h q (by omega) h2
   ·by_cases p:P i
    ·rw[s1 p];refine ih2 fun k=>h fun q h1 h2=>?_;by_cases e:q=i
     ·rw[e];exact p
     ·exact k q (by omega) h2
    ·exact s2 p
theorem HL {α:Type} [Inhabited α] (l:List α) {q i:Nat} (h:q<i) (hi:i≤l.length):AC (Bd l 0 (i:Int)) (q:Int)=AC l (q:Int):=by
 have hl:q<(Bd l 0 (i:Int)).length:=by unfold Bd;simp;omega
 rw[Ai _ q hl,Ai l q (by omega)];unfold Bd;simp
theorem GH {α:Type} (l:List α) {i:Nat} (hi:i≤l.length):(Bd l 0 (i:Int)).length=i:=by unfold Bd;simp;omega
theorem Nk (x:Nat) (hx:x<256):∀ (m i fuel:Nat) (w:Nat),i+m=x%64→m<fuel→w<18446744073709551616→
 Cr 20000 (x:Int) fuel (w:Int) (i:Int)=some (w.testBit m)
 | 0,i,f+1,w,h,_,hw=>by
   rw[Cr.eq_2,Iy,if_neg (by omega),Gv,Nat.testBit_zero];congr 1;rw[decide_eq_decide,Int.tmod_eq_emod_of_nonneg (by omega)];omega
 | m+1,i,f+1,w,h,hf,hw=>by
   have e:IntKind.u64.wrap ((w:Int).tdiv 2)=((w / 2:Nat):Int):=by
    rw[Int.tdiv_eq_ediv_of_nonneg (by omega)];have:=FM ((w:Int) / 2);unfold u64 at this;rw[this];omega
   rw[Cr.eq_2,Iy,if_pos (by omega),e,Ax (by omega) (by omega)];have:=Nk x hx m (i+1) f (w / 2) (by omega) (by omega) (by omega);rw[Nat.testBit_succ];exact_mod_cast this
theorem JC {a:Vector Int 4} (ha:U a) {x:Nat} (hx:x<256):Kx 20000 a (x:Int)=some (tb a x):=by
 obtain⟨e,l⟩:=FE ha (x / 64) (by omega);unfold Kx;rw[N5 x (by omega),if_pos ⟨by omega,by omega⟩,e];have:=Nk x hx (x%64) 0 20000 (wd a (x / 64)) (by omega) (by omega) l;exact this
theorem Tw (p1:Vector Int 4) (h1:U p1):∀ (m i fuel:Nat) (a:Vector Int 4),i+m=4→m<fuel→U a→
 ∃ c,Cq 20000 p1 fuel a i=some c∧U c∧∀ j:Nat,j<4→wd c j=if i≤j then wd a j ||| wd p1 j else wd a j
 | 0,i,f+1,a,h,_,ha=>by
   rw[Cq.eq_2,if_neg (by omega),Gf];exact⟨a,rfl,ha,fun j hj=>by rw[if_neg (by omega)]⟩
 | m+1,i,f+1,a,h,hf,ha=>by
   have hi:i<4:=by omega
   have g:0≤(i:Int)∧(i:Int)<4:=⟨by omega,by omega⟩;obtain⟨e1,l1⟩:=FE ha i hi;obtain⟨e2,l2⟩:=FE h1 i hi;have ho:bits .or .u64 (Ag a (i:Int)) (Ag p1 (i:Int))=((wd a i ||| wd p1 i:Nat):Int):=by rw[e1,e2,bits_or_u64_nat _ _ l1 l2]
   have hlt:wd a i ||| wd p1 i<18446744073709551616:=Nat.or_lt_two_pow (n:=64) l1 l2;have hU:U (BG a (i:Int) ((wd a i ||| wd p1 i:Nat):Int)):=by
    intro j hj;rw[C0 _ _ _ _ hi hj];split
    ·omega
    ·exact ha j hj
   obtain⟨c,c1,c2,c3⟩:=Tw p1 h1 m (i+1) f (BG a (i:Int) ((wd a i ||| wd p1 i:Nat):Int)) (by omega) (by omega) hU;rw[Cq.eq_2,if_pos g.2,if_pos g,if_pos g,if_pos g,ho,Ax (by omega) (by omega)];refine⟨c,by exact_mod_cast c1,c2,fun j hj=>?_⟩;rw[c3 j hj];have hw:wd (BG a (i:Int) ((wd a i ||| wd p1 i:Nat):Int)) j=if j=i then wd a i ||| wd p1 i else wd a j:=by
    unfold wd;rw[C0 _ _ _ _ hi hj];by_cases q:j=i
    ·rw[if_pos q,if_pos q,Int.toNat_natCast]
    ·rw[if_neg q,if_neg q]
   rw[hw];by_cases q:j=i
   ·subst q;rw[if_neg (by omega),if_pos rfl,if_pos (by omega)]
   ·rw[if_neg q];by_cases r:i+1≤j
    ·rw[if_pos r,if_pos (by omega)]
    ·rw[if_neg r,if_neg (by omega)]
theorem or_eq {a b:Vector Int 4} (ha:U a) (hb:U b):∃ c,P8 20000 a b=some c∧U c∧∀ x,x<256→tb c x=(tb a x||tb b x):=by
 obtain⟨c,c1,c2,c3⟩:=Tw b hb 4 0 20000 a (by omega) (by omega) ha;refine⟨c,c1,c2,fun x hx=>?_⟩;unfold tb;rw[c3 _ (by omega),if_pos (by omega),Nat.testBit_or]
theorem LT (t:Nat) (ht:t<256):∀ (m i fuel:Nat) (a:Vector Int 4),t+1-i=m→m<fuel→i≤256→U a→
 ∃ c,Cv 20000 (t:Int) fuel a i=some c∧U c∧∀ x,x<256→tb c x=(tb a x||decide (i≤x∧x≤t))
 | 0,i,f+1,a,h,_,hi,ha=>by
   rw[Cv.eq_2,Ax (n:=(t:Int)) (by omega) (by omega),if_neg (by omega),Ge];exact⟨a,rfl,ha,fun x hx=>by rw[decide_eq_false (by omega),Bool.or_false]⟩
 | m+1,i,f+1,a,h,hf,hi,ha=>by
   have hib:i<256:=by omega
   have e1:IntKind.i64.wrap ((i:Int).tdiv 64)=((i / 64:Nat):Int):=by
    have h1:(i:Int).tdiv 64=((i / 64:Nat):Int):=by rw[Int.tdiv_eq_ediv_of_nonneg (by omega)];omega
    rw[h1];have:=Ax (n:=((i / 64:Nat):Int)) (by omega) (by omega);exact this
   have e2:u64 ((i:Int).tmod 64)=((i%64:Nat):Int):=by
    have h1:(i:Int).tmod 64=((i%64:Nat):Int):=by rw[Int.tmod_eq_emod_of_nonneg (by omega)];omega
    rw[h1,FM];omega
   have g:0≤((i / 64:Nat):Int)∧((i / 64:Nat):Int)<4:=⟨by omega,by omega⟩;obtain⟨p1,p2⟩:=JL ha hib _ rfl;obtain⟨c,c1,c2,c3⟩:=LT t ht m (i+1) f _ (by omega) (by omega) (by omega) p1;rw[Cv.eq_2,Ax (n:=(t:Int)) (by omega) (by omega),if_pos (by omega),e1,e2,if_pos g,if_pos (by omega),if_pos g,Int.toNat_natCast,Ax (by omega) (by omega)];refine⟨c,by exact_mod_cast c1,c2,fun x hx=>?_⟩;rw[c3 x hx,p2 x hx,Bool.or_assoc];congr 1;rw[←Bool.decide_or,decide_eq_decide];omega
theorem O0 {f t:Nat} (hf:f<256) (ht:t<256):∃ c,MZ 20000 (f:Int) (t:Int)=some c∧U c∧∀ x,x<256→tb c x=decide (f≤x∧x≤t):=by
 obtain⟨c,c1,c2,c3⟩:=LT t ht (t+1-f) f 20000 _ rfl (by omega) (by omega) FK;unfold MZ;rw[Ax (by omega) (by omega)];exact⟨c,c1,c2,fun x hx=>by rw[c3 x hx,Fc x hx,Bool.false_or]⟩
theorem FA (a b:Nat) (ha:a<18446744073709551616) (hb:b<18446744073709551616):
 ∃ c:Nat,bits .andNot .u64 (a:Int) (b:Int)=(c:Int)∧c<18446744073709551616∧∀ i,i<64→c.testBit i=(a.testBit i&& !b.testBit i):=by
 have h1:(BitVec.ofInt 64 (a:Int)).toNat=a:=by
  rw[BitVec.ofInt_natCast,BitVec.toNat_ofNat];exact Nat.mod_eq_of_lt (by omega)
 have h2:(BitVec.ofInt 64 (b:Int)).toNat=b:=by
  rw[BitVec.ofInt_natCast,BitVec.toNat_ofNat];exact Nat.mod_eq_of_lt (by omega)
 have hlt:(BitVec.ofInt 64 (a:Int) &&& ~~~ BitVec.ofInt 64 (b:Int)).toNat<18446744073709551616:=BitVec.isLt _;refine⟨(BitVec.ofInt 64 (a:Int) &&& ~~~ BitVec.ofInt 64 (b:Int)).toNat,?_,hlt,fun i hi=>?_⟩
 ·show IntKind.u64.wrap ((BitVec.ofInt 64 (a:Int) &&& ~~~ BitVec.ofInt 64 (b:Int)).toNat:Int)=_;rw[IntKind.wrap_u64];omega
 ·rw[BitVec.testBit_toNat,BitVec.getLsbD_and,BitVec.getLsbD_not, ←BitVec.testBit_toNat, ←BitVec.testBit_toNat,h1,h2,decide_eq_true hi,Bool.true_and]
theorem Ny (p1:Vector Int 4) (h1:U p1):∀ (m i fuel:Nat) (a:Vector Int 4),i+m=4→m<fuel→U a→
 ∃ c,Cp 20000 p1 fuel a i=some c∧U c∧∀ j:Nat,j<4→∀ t,t<64→(wd c j).testBit t=if i≤j then(wd a j).testBit t&& !(wd p1 j).testBit t else(wd a j).testBit t
 | 0,i,f+1,a,h,_,ha=>by
   rw[Cp.eq_2,if_neg (by omega),Gr];exact⟨a,rfl,ha,fun j hj t ht=>by rw[if_neg (by omega)]⟩
 | m+1,i,f+1,a,h,hf,ha=>by
   have hi:i<4:=by omega
   have g:0≤(i:Int)∧(i:Int)<4:=⟨by omega,by omega⟩;obtain⟨e1,l1⟩:=FE ha i hi;obtain⟨e2,l2⟩:=FE h1 i hi;obtain⟨z,z1,z2,z3⟩:=FA _ _ l1 l2;have ho:bits .andNot .u64 (Ag a (i:Int)) (Ag p1 (i:Int))=(z:Int):=by rw[e1,e2,z1]
   have hU:U (BG a (i:Int) (z:Int)):=by
    intro j hj;rw[C0 _ _ _ _ hi hj];split
    ·omega
    ·exact ha j hj
   obtain⟨c,c1,c2,c3⟩:=Ny p1 h1 m (i+1) f (BG a (i:Int) (z:Int)) (by omega) (by omega) hU;rw[Cp.eq_2,if_pos g.2,if_pos g,if_pos g,if_pos g,ho,Ax (by omega) (by omega)];refine⟨c,by exact_mod_cast c1,c2,fun j hj t ht=>?_⟩;rw[c3 j hj t ht];have hw:wd (BG a (i:Int) (z:Int)) j=if j=i then z else wd a j:=by
    unfold wd;rw[C0 _ _ _ _ hi hj];by_cases q:j=i
    ·rw[if_pos q,if_pos q,Int.toNat_natCast]
    ·rw[if_neg q,if_neg q]
   rw[hw];by_cases q:j=i
   ·subst q;rw[if_neg (by omega),if_pos rfl,if_pos (by omega),z3 t ht]
   ·rw[if_neg q];by_cases r:i+1≤j
    ·rw[if_pos r,if_pos (by omega)]
    ·rw[if_neg r,if_neg (by omega)]
theorem QT {a b:Vector Int 4} (ha:U a) (hb:U b):∃ c,Pp 20000 a b=some c∧U c∧∀ x,x<256→tb c x=(tb a x&& !tb b x):=by
 obtain⟨c,c1,c2,c3⟩:=Ny b hb 4 0 20000 a (by omega) (by omega) ha;refine⟨c,c1,c2,fun x hx=>?_⟩;unfold tb;rw[c3 _ (by omega) _ (by omega),if_pos (by omega)]
theorem L4:∃ c,MP 20000=some c∧U c∧∀ x,x<256→tb c x=true:=by
 refine⟨_,rfl,?_⟩;have hv:∀ j:Nat,j<4→Ag ((BG (BG (BG (BG (Vector.replicate 4 (0:Int)) (0:Int) (18446744073709551615:Int)) (1:Int) (18446744073709551615:Int)) (2:Int) (18446744073709551615:Int)) (3:Int) (18446744073709551615:Int))) (j:Int)=18446744073709551615:=by
  intro j hj;have:j=0∨j=1∨j=2∨j=3:=by omega
  rcases this with rfl|rfl|rfl|rfl<;>rfl
 constructor
 ·intro j hj;rw[hv j hj];omega
 ·intro x hx;unfold tb wd;rw[hv _ (by omega)];have:=Nat.testBit_two_pow_sub_one 64 (x%64);have h2:(18446744073709551615:Int).toNat=2 ^ 64-1:=rfl;rw[h2,this];exact decide_eq_true (by omega)
theorem ST {a:Vector Int 4} (ha:U a):∃ c,M4 20000 a=some c∧U c∧∀ x,x<256→tb c x= !tb a x:=by
 obtain⟨d,d1,d2,d3⟩:=L4;obtain⟨c,c1,c2,c3⟩:=QT d2 ha;refine⟨c,?_,c2,fun x hx=>by rw[c3 x hx,d3 x hx,Bool.true_and]⟩;unfold M4;rw[d1,Option.bind_some,c1];rfl
theorem PO (L:List Bool):∀ (m i fuel:Nat) (a:Vector Int 4),i+m=min 256 L.length→m<fuel→U a→(∀ x,x<256→i≤x→tb a x=false)→
 ∃ c,CT 20000 L fuel a i=some c∧U c∧∀ x,x<256→tb c x=(tb a x||(decide (i≤x)&&L.getD x false))
 | 0,i,f+1,a,h,_,ha,hz=>by
   rw[CT.eq_2];have hb:(if(i:Int)<256 then some (decide ((i:Int)<(L.length:Int)))else some false)=some false:=by
    by_cases q:(i:Int)<256
    ·rw[if_pos q,decide_eq_false (by omega)]
    ·rw[if_neg q]
   rw[hb,Option.bind_some,if_neg (by decide),Gj];refine⟨a,rfl,ha,fun x hx=>?_⟩;by_cases q:i≤x
   ·rw[decide_eq_true q,Bool.true_and,List.getD,List.getElem?_eq_none (by omega)];simp
   ·rw[decide_eq_false q];simp
 | m+1,i,f+1,a,h,hf,ha,hz=>by
   have hi:i<256:=by omega
   have hl:i<L.length:=by omega
   have g:0≤(i:Int)∧(i:Int)<(L.length:Int):=⟨by omega,by omega⟩;have eb:AC L (i:Int)=L[i]:=by
    unfold AC;rw[show (i:Int).toNat=i by omega,List.getD,List.getElem?_eq_getElem hl];rfl
   have eg:L.getD i false=L[i]:=by rw[List.getD,List.getElem?_eq_getElem hl];rfl
   rw[CT.eq_2,if_pos (show (i:Int)<256 by omega),decide_eq_true g.2,Option.bind_some,if_pos rfl,if_pos g,eb];by_cases q:L[i]=true
   ·obtain⟨e,l⟩:=FE ha (i / 64) (by omega);have hsmall:wd a (i / 64)<2 ^ (i%64):=by
     apply Nat.lt_pow_two_of_testBit;intro t ht;by_cases r:t<64
     ·have:=hz (64*(i / 64)+t) (by omega) (by omega);unfold tb at this;rwa [show (64*(i / 64)+t) / 64=i / 64 by omega,show (64*(i / 64)+t)%64=t by omega]at this
     ·have hp:18446744073709551616≤2 ^ t:=Nat.le_trans (by decide:18446744073709551616≤2 ^ 64) (Nat.pow_le_pow_right (by omega) (by omega));exact Nat.testBit_lt_two_pow (by omega)
    have hpw:(2:Nat) ^ (i%64)<18446744073709551616:=Nat.lt_of_lt_of_le (Nat.pow_lt_pow_right (by omega) (by omega:i%64<64)) (by decide:2 ^ 64≤18446744073709551616);obtain⟨o1,o2⟩:=M1 l (i:=i%64) (by omega);have hsum:wd a (i / 64) ||| 2 ^ (i%64)=2 ^ (i%64)+wd a (i / 64):=by
     have:=Nat.two_pow_add_eq_or_of_lt hsmall 1;rw[Nat.mul_one]at this;rw[this,Nat.or_comm]
    have e5:IntKind.u64.wrap ((1:Int)*2 ^ (min (i%64) IntKind.u64.bits))=((2 ^ (i%64):Nat):Int):=by
     rw[show min (i%64) IntKind.u64.bits=i%64 by show min (i%64) 64=i%64;omega];have:=FM (1*2 ^ (i%64));unfold u64 at this;rw[this];have e3:((1:Int)*2 ^ (i%64))=((2 ^ (i%64):Nat):Int):=by simp
     rw[e3];generalize 2 ^ (i%64)=q at hpw⊢
     omega
    have e6:u64 (Ag a ((i / 64:Nat):Int)+IntKind.u64.wrap ((1:Int)*2 ^ (min (i%64) IntKind.u64.bits)))=bits .or .u64 (Ag a ((i / 64:Nat):Int)) (IntKind.u64.wrap ((1:Int)*2 ^ (min (i%64) IntKind.u64.bits))):=by
     rw[e,o1,e5,hsum,FM];generalize 2 ^ (i%64)=q at *
     omega
    obtain⟨p1,p2⟩:=JL ha hi _ rfl;obtain⟨c,c1,c2,c3⟩:=PO L m (i+1) f _ (by omega) (by omega) p1 (fun x hx hxi=>by rw[p2 x hx,hz x hx (by omega),decide_eq_false (by omega)];rfl);rw[if_pos q,N5 i (by omega),Ry i (by omega),if_pos ⟨by omega,by omega⟩,if_pos (by omega),if_pos ⟨by omega,by omega⟩,Int.toNat_natCast,e6];unfold Et;rw[Ax (by omega) (by omega)];refine⟨c,by exact_mod_cast c1,c2,fun x hx=>?_⟩;rw[c3 x hx,p2 x hx];by_cases r:x=i
    ·subst r;rw[decide_eq_true rfl,decide_eq_true (Nat.le_refl _),eg,q];simp
    ·rw[decide_eq_false r,Bool.or_false];congr 2;rw[decide_eq_decide];omega
   ·rw[if_neg q];unfold Et;rw[Ax (by omega) (by omega)];obtain⟨c,c1,c2,c3⟩:=PO L m (i+1) f a (by omega) (by omega) ha (fun x hx hxi=>hz x hx (by omega));refine⟨c,by exact_mod_cast c1,c2,fun x hx=>?_⟩;rw[c3 x hx];by_cases r:x=i
    ·subst r;rw[decide_eq_false (by omega),decide_eq_true (Nat.le_refl _),eg,Bool.eq_false_iff.2 q];rfl
    ·congr 2;rw[decide_eq_decide];omega
theorem KZ (L:List Bool):∃ c,J8 20000 L=some c∧U c∧∀ x,x<256→tb c x=L.getD x false:=by
 obtain⟨c,c1,c2,c3⟩:=PO L (min 256 L.length) 0 20000 _ (by omega) (by omega) FK (fun x hx _=>Fc x hx);refine⟨c,c1,c2,fun x hx=>?_⟩;rw[c3 x hx,Fc x hx,decide_eq_true (Nat.zero_le _)];simp
def Ma (o:Int) (s t:Bool):Bool:=if o=0 then s||t else if o=1 then s&&t else if o=2 then s&& !t else !s
theorem OY (o:Int) {a b:Vector Int 4} (ha:U a) (hb:U b):∀ (m i fuel:Nat) (acc:List Bool),i+m=256→m<fuel→acc.length=i→(∀ x,x<i→acc.getD x false=Ma o (tb a x) (tb b x))→
 ∃ L:List Bool,BH 20000 o a b fuel acc i=Eo 20000 L∧∀ x,x<256→L.getD x false=Ma o (tb a x) (tb b x)
 | 0,i,f+1,acc,h,_,hl,hz=>by
   rw[BH.eq_2,if_neg (by omega)];exact⟨acc,rfl,fun x hx=>hz x (by omega)⟩
 | m+1,i,f+1,acc,h,hf,hl,hz=>by
   have hi:i<256:=by omega
   have next:∀ v,v=Ma o (tb a i) (tb b i)→∃ L:List Bool,CF 20000 (BH 20000 o a b f) (i:Int) (acc++[v])=Eo 20000 L∧∀ x,x<256→L.getD x false=Ma o (tb a x) (tb b x):=by
    intro v hv;unfold CF;rw[Ax (by omega) (by omega)]
    have:=OY o ha hb m (i+1) f (acc++[v]) (by omega) (by omega) (by simp;omega) (fun x hx=>by
     by_cases q:x<i
     ·rw[List.getD,List.getElem?_append_left (by omega)];have:=hz x q;rw[List.getD]at this;exact this
     ·have e:x=i:=by omega
      subst e
      rw[List.getD,List.getElem?_append_right (by omega),hl,Nat.sub_self, ←hv];rfl)
    exact_mod_cast this
   have hlen:∀ v:Bool,(acc++[v]).length*1≤140737488355328:=by intro v;simp;omega
   rw[BH.eq_2,if_pos (by omega),JC ha hi,Option.bind_some,JC hb hi,Option.bind_some];by_cases o0:o=0
   ·rw[if_pos o0]
    cases q:tb a i with
    | true=>rw[if_pos rfl,if_pos (hlen _)];exact next _ (by unfold Ma;rw[if_pos o0,q];rfl)
    | false=>rw[if_neg (by decide),if_pos (hlen _)];exact next _ (by unfold Ma;rw[if_pos o0,q];rfl)
   ·rw[if_neg o0];by_cases o1:o=1
    ·rw[if_pos o1]
     cases q:tb a i with
     | true=>rw[if_pos rfl,if_pos (hlen _)];exact next _ (by unfold Ma;rw[if_neg o0,if_pos o1,q];rfl)
     | false=>rw[if_neg (by decide),if_pos (hlen _)];exact next _ (by unfold Ma;rw[if_neg o0,if_pos o1,q];rfl)
    ·rw[if_neg o1];by_cases o2:o=2
     ·rw[if_pos o2]
      cases q:tb a i with
      | true=>rw[if_pos rfl,if_pos (hlen _)];exact next _ (by unfold Ma;rw[if_neg o0,if_neg o1,if_pos o2,q];rfl)
      | false=>rw[if_neg (by decide),if_pos (hlen _)];exact next _ (by unfold Ma;rw[if_neg o0,if_neg o1,if_pos o2,q];rfl)
     ·rw[if_neg o2,if_pos (hlen _)];exact next _ (by unfold Ma;rw[if_neg o0,if_neg o1,if_neg o2])
theorem Ly (o:Int) {a b:Vector Int 4} (ha:U a) (hb:U b):∃ c,K9 20000 o a b=some c∧U c∧∀ x,x<256→tb c x=Ma o (tb a x) (tb b x):=by
 obtain⟨L,l1,l2⟩:=OY o ha hb 256 0 20000 [] (by omega) (by omega) rfl (fun x hx=>by omega);obtain⟨c,c1,c2,c3⟩:=KZ L;refine⟨c,?_,c2,fun x hx=>by rw[c3 x hx,l2 x hx]⟩;have e:K9 20000 o a b=BH 20000 o a b 20000 [] ((0:Nat):Int):=rfl;rw[e,l1,Eo,c1];rfl
theorem Ts (l:List Int) (hl:∀ b∈l,0≤b∧b≤255) (hz:l.length≤1000):∀ (m i fuel:Nat) (a:Vector Int 4),i+m=l.length→m<fuel→U a→
 ∃ c,Cx 20000 l fuel a i=some c∧U c∧∀ x,x<256→tb c x=(tb a x||decide ((x:Int)∈l.drop i))
 | 0,i,f+1,a,h,_,ha=>by
   rw[Cx.eq_2,if_neg (by omega),Gn];exact⟨a,rfl,ha,fun x hx=>by rw[List.drop_of_length_le (by omega)];simp⟩
 | m+1,i,f+1,a,h,hf,ha=>by
   have hi:i<l.length:=by omega
   have g:0≤(i:Int)∧(i:Int)<(l.length:Int):=⟨by omega,by omega⟩;have eb:AC l (i:Int)=l[i]:=by
    unfold AC;rw[show (i:Int).toNat=i by omega,List.getD,List.getElem?_eq_getElem hi];rfl
   have hb:=hl l[i] (List.getElem_mem hi);obtain⟨b,eb2⟩:∃ b:Nat,l[i]=b:=⟨l[i].toNat,by omega⟩;have hb2:b<256:=by omega
   obtain⟨p1,p2⟩:=JL ha hb2 _ rfl;obtain⟨c,c1,c2,c3⟩:=Ts l hl hz m (i+1) f _ (by omega) (by omega) p1;rw[Cx.eq_2,if_pos g.2,if_pos g,eb,eb2,Qy b hb2,Iy,if_pos ⟨by omega,by omega⟩,if_pos (by omega),if_pos ⟨by omega,by omega⟩,Int.toNat_natCast,Ax (by omega) (by omega)];refine⟨c,by exact_mod_cast c1,c2,fun x hx=>?_⟩;rw[c3 x hx,p2 x hx,List.drop_eq_getElem_cons hi,eb2,Bool.or_assoc];congr 1;rw[←Bool.decide_or,decide_eq_decide,List.mem_cons];constructor
   ·rintro (h|h)
    ·exact .inl (by omega)
    ·exact .inr h
   ·rintro (h|h)
    ·exact .inl (by omega)
    ·exact .inr h
abbrev KK:Nat:=20000
def VZ:Vector Int 4:=Vector.replicate 4 (0:Int)
inductive Rx where
 | non
 | one (s:Vector Int 4)
 | cat (a b:Rx)
 | alt (a b:Rx)
 | un (k:Int) (a:Rx)
def AP:Rx→List AE
 | .non=>[AE.mk 0 VZ]
 | .one s=>[AE.mk 1 s]
 | .cat a b=>AP a++AP b++[AE.mk 2 VZ]
 | .alt a b=>AP a++AP b++[AE.mk 3 VZ]
 | .un k a=>AP a++[AE.mk k VZ]
def Fv:Rx→Prop
 | .non=>True
 | .one s=>U s∧s≠VZ
 | .cat a b=>Fv a∧Fv b
 | .alt a b=>Fv a∧Fv b
 | .un k a=>4≤k∧k≤6∧Fv a
theorem BU:∀ t:Rx,0<(AP t).length
 | .non=>by simp[AP]
 | .one _=>by simp[AP]
 | .cat a b=>by simp[AP];omega
 | .alt a b=>by simp[AP];omega
 | .un k a=>by simp[AP]
def tk (k:Int):Int:=if k=0∨k=1 then 0 else if k=2∨k=3 then 2 else if k=4∨k=5∨k=6 then 1 else -1
theorem H0 (K:Nat) (k:Int):Mp K k=some (tk k):=by
 unfold Mp tk;by_cases a:k<0
 ·rw[if_pos a,Option.bind_some,if_pos rfl,if_neg (by omega),if_neg (by omega),if_neg (by omega)]
 by_cases b:(6:Int)<k
 ·rw[if_neg a,Option.bind_some,if_pos (by simpa using b),if_neg (by omega),if_neg (by omega),if_neg (by omega)]
 rw[if_neg a,Option.bind_some,if_neg (by simpa using b),if_pos ⟨by omega,by simp;omega⟩];have:k=0∨k=1∨k=2∨k=3∨k=4∨k=5∨k=6:=by omega
 rcases this with rfl|rfl|rfl|rfl|rfl|rfl|rfl<;>rfl
theorem Vu (l:List AE) (i:Nat) (h:i<l.length):AC l (i:Int)=l[i]:=by simp[AC,List.getD,List.getElem?_eq_getElem h]
theorem Ey (pre:List AE) (p:AE) (post:List AE):AC (pre++p::post) (pre.length:Int)=p:=by
 rw[Vu _ _ (by simp)];simp
theorem TV (k:Int): -1≤tk k∧tk k≤2:=by unfold tk;repeat (first|omega|split)
theorem LA (p0:List AE) (hz:p0.length≤1000000):∀ (t:Rx),Fv t→∀ (pre post:List AE) (need:Int) (f:Nat),p0=pre++AP t++post→1≤need→need≤1000000000 - (AP t).length→
 BF KK p0 (f+(AP t).length) need ((pre.length:Int)+(AP t).length-1)=(if need=1 then some (pre.length:Int)else BF KK p0 f (need-1) ((pre.length:Int) -1)):=by
 have back:∀ (pre:List AE) (p:AE) (post:List AE) (need:Int) (f:Nat),p0=pre++p::post→1≤need→need≤1000000000→0≤tk p.f0→
  BF KK p0 (f+1) need (pre.length:Int)=(if need-1+tk p.f0=0 then some (pre.length:Int)else BF KK p0 f (need-1+tk p.f0) ((pre.length:Int) -1)):=by
  intro pre p post need f e h1 h2 h3;have hl:pre.length<p0.length:=by rw[e];simp
  have htk:=TV p.f0;have hg:AC p0 (pre.length:Int)=p:=by rw[e];exact Ey pre p post
  have g0:(0:Int)≤(pre.length:Int):=by omega
  have g1:0≤(pre.length:Int)∧(pre.length:Int)<(p0.length:Int):=⟨by omega,by omega⟩;rw[BF.eq_2,if_pos g0,if_pos g1,hg,H0,Option.bind_some,CH (x:=need-1) (by omega) (by omega),CH (x:=need-1+tk p.f0) (by omega) (by omega),CH (x:=(pre.length:Int) -1) (by omega) (by omega)]
 intro t
 have two:∀ (k:Int) (a b:Rx),tk k=2→(∀ (pre post:List AE) (need:Int) (f:Nat),p0=pre++AP a++post→1≤need→need≤1000000000 - (AP a).length→
  BF KK p0 (f+(AP a).length) need ((pre.length:Int)+(AP a).length-1)=(if need=1 then some (pre.length:Int)else BF KK p0 f (need-1) ((pre.length:Int) -1)))→
  (∀ (pre post:List AE) (need:Int) (f:Nat),p0=pre++AP b++post→1≤need→need≤1000000000 - (AP b).length→
  BF KK p0 (f+(AP b).length) need ((pre.length:Int)+(AP b).length-1)=(if need=1 then some (pre.length:Int)else BF KK p0 f (need-1) ((pre.length:Int) -1)))→
  ∀ (pre post:List AE) (need:Int) (f:Nat),p0=pre++(AP a++AP b++[AE.mk k VZ])++post→1≤need→need≤1000000000 - (AP a++AP b++[AE.mk k VZ]).length→
  BF KK p0 (f+(AP a++AP b++[AE.mk k VZ]).length) need ((pre.length:Int)+(AP a++AP b++[AE.mk k VZ]).length-1)=(if need=1 then some (pre.length:Int)else BF KK p0 f (need-1) ((pre.length:Int) -1)):=by
  intro k a b hk iha ihb pre post need f e h1 h2;have hla:=BU a;have hlb:=BU b;have hlen:(AP a++AP b++[AE.mk k VZ]).length=(AP a).length+(AP b).length+1:=by simp only[List.length_append,List.length_cons,List.length_nil]
  rw[hlen]at h2⊢
  have b1:=back (pre++AP a++AP b) (AE.mk k VZ) post need (f+(AP a).length+(AP b).length) (by rw[e];simp) h1 (by omega) (by rw[hk];omega);rw[hk,if_neg (by omega)]at b1;have b2:=ihb (pre++AP a) (AE.mk k VZ::post) (need-1+2) (f+(AP a).length) (by rw[e];simp) (by omega) (by omega);rw[if_neg (by omega)]at b2;have b3:=iha pre (AP b++AE.mk k VZ::post) need f (by rw[e];simp) h1 (by omega);have i1:((pre++AP a++AP b).length:Int)=(pre.length:Int)+(((AP a).length+(AP b).length+1:Nat):Int) -1:=by simp only[List.length_append,List.length_cons,List.length_nil];omega
  have i2:((pre++AP a++AP b).length:Int) -1=((pre++AP a).length:Int)+(AP b).length-1:=by simp only[List.length_append,List.length_cons,List.length_nil];omega
  have i3:((pre++AP a).length:Int) -1=(pre.length:Int)+(AP a).length-1:=by simp only[List.length_append,List.length_cons,List.length_nil];omega
  have i4:need-1+2-1=need:=by omega
  rw[i2]at b1;rw[i1]at b1;rw[i3,i4]at b2;rw[show f+((AP a).length+(AP b).length+1)=f+(AP a).length+(AP b).length+1 by omega];exact b1.trans (b2.trans b3)
 induction t with
 | non=>
   intro _ pre post need f e h1 h2;have:=back pre (AE.mk 0 VZ) post need f (by rw[e];simp[AP]) h1 (by simp[AP]at h2;omega) (by decide);have e0:need-1+tk 0=need-1:=by rw[show tk 0=0 from rfl];omega
   rw[e0]at this;have i1:(pre.length:Int)+((AP .non).length:Int) -1=(pre.length:Int):=by simp[AP]
   rw[i1];by_cases q:need=1
   ·rw[if_pos q];rw[if_pos (by omega)]at this;exact this
   ·rw[if_neg q];rw[if_neg (by omega)]at this;exact this
 | one s=>
   intro _ pre post need f e h1 h2;have:=back pre (AE.mk 1 s) post need f (by rw[e];simp[AP]) h1 (by simp[AP]at h2;omega) (by show 0≤tk 1;decide);have e0:need-1+tk (AE.mk 1 s).f0=need-1:=by rw[show tk (AE.mk 1 s).f0=0 from rfl];omega
   rw[e0]at this;have i1:(pre.length:Int)+((AP (.one s)).length:Int) -1=(pre.length:Int):=by simp[AP]
   rw[i1];by_cases q:need=1
   ·rw[if_pos q];rw[if_pos (by omega)]at this;exact this
   ·rw[if_neg q];rw[if_neg (by omega)]at this;exact this
 | cat a b iha ihb=>
   intro hok pre post need f e h1 h2;exact two 2 a b rfl (iha hok.1) (ihb hok.2) pre post need f e h1 h2
 | alt a b iha ihb=>
   intro hok pre post need f e h1 h2;exact two 3 a b rfl (iha hok.1) (ihb hok.2) pre post need f e h1 h2
 | un k a iha=>
   intro hok pre post need f e h1 h2;have hk:tk k=1:=by
    have:k=4∨k=5∨k=6:=by have:=hok.1;have:=hok.2.1;omega
    rcases this with rfl|rfl|rfl<;>rfl
   have hla:=BU a;have hlen:(AP (.un k a)).length=(AP a).length+1:=by simp[AP]
   rw[hlen]at h2⊢
   have b1:=back (pre++AP a) (AE.mk k VZ) post need (f+(AP a).length) (by rw[e];simp[AP]) h1 (by omega) (by show 0≤tk k;omega);rw[show tk (AE.mk k VZ).f0=1 from hk,if_neg (by omega),show need-1+1=need by omega]at b1;have b3:=iha hok.2.2 pre (AE.mk k VZ::post) need f (by rw[e];simp[AP]) h1 (by omega);have i1:((pre++AP a).length:Int)=(pre.length:Int)+(((AP a).length+1:Nat):Int) -1:=by simp only[List.length_append,List.length_cons,List.length_nil];omega
   have i3:((pre++AP a).length:Int) -1=(pre.length:Int)+(AP a).length-1:=by simp only[List.length_append,List.length_cons,List.length_nil];omega
   rw[i3]at b1;rw[i1]at b1;rw[show f+((AP a).length+1)=f+(AP a).length+1 by omega];exact b1.trans b3
theorem OD {p0:List AE} (hz:p0.length≤4000) {t:Rx} (ht:Fv t) {pre post:List AE} (e:p0=pre++AP t++post):
 P7 KK p0 ((pre.length:Int)+(AP t).length-1)=some (pre.length:Int):=by
 have hl:(AP t).length≤p0.length:=by rw[e];simp;omega
 have:=LA p0 (by omega) t ht pre post 1 (KK - (AP t).length) e (by omega) (by omega);rw[if_pos rfl,show KK - (AP t).length+(AP t).length=KK by show 20000-_+_=20000;omega]at this;exact this
def CI:Rx→List (List AE)
 | .cat a b=>[AP a,AP b]
 | .alt a b=>[AP a,AP b]
 | .un _ a=>[AP a]
 | _=>[]
def MQ:Rx→Int
 | .non=>0
 | .one _=>1
 | .cat _ _=>2
 | .alt _ _=>3
 | .un k _=>k
theorem E3 {t:Rx} (hz:(AP t).length≤4000):AH (((AP t).length:Int) -1)=(((AP t).length-1:Nat):Int):=by
 have:=BU t;rw[CH (by omega) (by omega)];omega
def IJ:Rx→Vector Int 4
 | .one s=>s
 | _=>VZ
theorem Dq:∀ (t:Rx),AC (AP t) (((AP t).length-1:Nat):Int)=AE.mk (MQ t) (IJ t)
 | .non=>rfl
 | .one s=>rfl
 | .cat a b=>by
   have:(AP (.cat a b)).length-1=(AP a++AP b).length:=by simp[AP]
   rw[this];exact Ey (AP a++AP b) _ []
 | .alt a b=>by
   have:(AP (.alt a b)).length-1=(AP a++AP b).length:=by simp[AP]
   rw[this];exact Ey (AP a++AP b) _ []
 | .un k a=>by
   have:(AP (.un k a)).length-1=(AP a).length:=by simp[AP]
   rw[this];exact Ey (AP a) _ []
theorem NK (a b c:List AE):Bd (a++b++c) (a.length:Int) ((a.length+b.length:Nat):Int)=b:=by
 unfold Bd;rw[Int.toNat_natCast,Int.toNat_natCast,List.take_append_of_le_length (by simp),List.take_of_length_le (by simp),List.drop_left]
theorem Dy {t:Rx} (ht:Fv t) (hz:(AP t).length≤4000):N7 KK (AP t)=some (CI t):=by
 have hp:=BU t;have hx:=E3 hz;unfold N7;rw[hx,if_pos ⟨by omega,by omega⟩,Dq,H0,Option.bind_some];have stop:∀ (f:Nat) (acc:List (List AE)) (x:Int),Bm KK (AP t) (f+1) acc x 0=some acc:=by
  intro f acc x;rw[Bm.eq_2,if_neg (by omega),Gl]
 have go:∀ (f:Nat) (acc:List (List AE)) (n:Int) (pre post:List AE) (a:Rx),Fv a→AP t=pre++AP a++post→acc.length≤10→0<n→n≤2→
  Bm KK (AP t) (f+1) acc ((pre.length+(AP a).length:Nat):Int) n=Bm KK (AP t) f ([AP a]++acc) (pre.length:Int) (n-1):=by
  intro f acc n pre post a ha e hl h0 h2;have hlen:(AP t).length=pre.length+(AP a).length+post.length:=by rw[e];simp;omega
  have hla:=BU a;have hs:=OD (p0:=AP t) hz ha e;have c2:Bd (AP t) (pre.length:Int) ((pre.length+(AP a).length:Nat):Int)=AP a:=by rw[e];exact NK pre (AP a) _
  rw[Bm.eq_2,if_pos h0,CH (x:=((pre.length+(AP a).length:Nat):Int) -1) (by omega) (by omega),show ((pre.length+(AP a).length:Nat):Int) -1=(pre.length:Int)+(AP a).length-1 by omega,hs,Option.bind_some,if_pos ⟨by omega,by omega,by omega⟩,c2,if_pos (by simp;omega),CH (x:=n-1) (by omega) (by omega)]
 have two:∀ (k:Int) (a b:Rx),Fv a→Fv b→AP t=AP a++AP b++[AE.mk k VZ]→Bm KK (AP t) KK [] (((AP t).length-1:Nat):Int) 2=some [AP a,AP b]:=by
  intro k a b ha hb e;have hlen:(AP t).length-1=(AP a).length+(AP b).length:=by rw[e];simp
  rw[hlen];have g1:=go 19999 [] 2 (AP a) [AE.mk k VZ] b hb (by rw[e]) (by simp) (by omega) (by omega);have g2:=go 19998 [AP b] (2-1) [] (AP b++[AE.mk k VZ]) a ha (by rw[e];simp) (by simp) (by omega) (by omega);refine g1.trans ?_;rw[List.append_nil];have i0:((([]:List AE).length+(AP a).length:Nat):Int)=((AP a).length:Int):=by simp
  rw[i0]at g2;refine g2.trans ?_;exact stop 19997 _ _
 cases t with
 | non=>exact stop 19999 _ _
 | one s=>exact stop 19999 _ _
 | cat a b=>exact two 2 a b ht.1 ht.2 rfl
 | alt a b=>exact two 3 a b ht.1 ht.2 rfl
 | un k a=>
   have hk:tk k=1:=by
    have:k=4∨k=5∨k=6:=by have:=ht.1;have:=ht.2.1;omega
    rcases this with rfl|rfl|rfl<;>rfl
   show Bm KK (AP (.un k a)) KK [] (((AP (.un k a)).length-1:Nat):Int) (tk k)=_;have hlen:(AP (.un k a)).length-1=([]:List AE).length+(AP a).length:=by simp[AP]
   rw[hk,hlen];refine(go 19999 [] 1 [] [AE.mk k VZ] a ht.2.2 (by simp[AP]) (by simp) (by omega) (by omega)).trans ?_;exact stop 19998 _ _
inductive SL (P:List Nat→Prop):List Nat→Prop where
 | nil:SL P []
 | step (x y:List Nat):x≠[]→P x→SL P y→SL P (x++y)
theorem SL.inv {P:List Nat→Prop} {w:List Nat} (h:SL P w):w=[]∨∃ x y,x≠[]∧P x∧SL P y∧w=x++y:=by
 cases h with
 | nil=>exact .inl rfl
 | step x y a b c=>exact .inr ⟨x,y,a,b,c,rfl⟩
theorem SL.app {P:List Nat→Prop} {x y:List Nat} (h:SL P x) (hy:P y):SL P (x++y):=by
 induction h with
 | nil=>
   by_cases e:y=[]
   ·rw[e];exact .nil
   ·have:=SL.step y [] e hy .nil;rw[List.append_nil]at this;exact this
 | step u v a b c ih=>rw[List.append_assoc];exact .step u _ a b ih
def Lx:Rx→List Nat→Prop
 | .non,v=>v=[]
 | .one s,v=>∃ b,v=[b]∧tb s b=true
 | .cat a b,v=>∃ x y,v=x++y∧Lx a x∧Lx b y
 | .alt a b,v=>Lx a v∨Lx b v
 | .un k a,v=>if k=6 then v=[]∨Lx a v else if k=4 then SL (Lx a) v else ∃ x y,v=x++y∧Lx a x∧SL (Lx a) y
theorem HJ (l:List Bool) (i q:Int) (b:Bool) (h0:0≤i) (h1:i<(l.length:Int)) (hq:0≤q):AC (Ac l i b) q=if q=i then b else AC l q:=by
 unfold AC Ac;rw[List.getD,List.getD,List.getElem?_set];by_cases e:i.toNat=q.toNat
 ·rw[if_pos e,if_pos (by omega),if_pos (by omega)];rfl
 ·rw[if_neg e,if_neg (by omega)]
theorem IQ (N:Nat) (q:Int):AC (List.replicate N false) q=false:=by
 unfold AC;rw[List.getD,List.getElem?_replicate];split<;>rfl
theorem Hk (x:List Bool) (q:Int):AC x q=true↔x[q.toNat]? =some true:=by
 unfold AC;rw[List.getD]
 cases x[q.toNat]? with
 | none=>simp
 | some b=>cases b<;>simp
theorem NI:∀ (x y:List Bool),x.length=y.length→(∀ j:Nat,x[j]? =some true→y[j]? =some true)→x=y∨cnt x<cnt y
 | [],[],_,_=>.inl rfl
 | a::x,b::y,hl,h=>by
   have ih:=NI x y (by simpa using hl) (fun j hj=>by have:=h (j+1) (by simpa using hj);simpa using this);have h0:a=true→b=true:=fun e=>by have:=h 0 (by simp[e]);simpa using this
   simp only[cnt,List.count_cons]at ih⊢
   rcases ih with rfl|ih
   ·cases a<;>cases b<;>simp at h0⊢
   ·right;cases a<;>cases b<;>simp at h0⊢ <;>omega
def LE (x y:List Bool):Prop:=∀ q:Int,0≤q→AC x q=true→AC y q=true
theorem LE.cnt {x y:List Bool} (h:LE x y) (hl:x.length=y.length):x=y∨cnt x<cnt y:=
 NI x y hl fun j hj=>by
  have:=h (j:Int) (by omega) ((Hk _ _).2 (by simpa using hj));have:=(Hk _ _).1 this;simpa using this
theorem LE.refl (x:List Bool):LE x x:=fun _ _ h=>h
theorem LE.trans {x y z:List Bool} (h:LE x y) (k:LE y z):LE x z:=fun q h0 h1=>k q h0 (h q h0 h1)
def W (s:ByteArray):List Nat:=s.data.toList.map UInt8.toNat
theorem G2 (s:ByteArray):(W s).length=s.size:=by simp[W]
theorem TW (s:ByteArray) (i:Nat) (h:i<(W s).length):AF s (i:Int)=((W s)[i]:Int):=by
 have hs:i<s.size:=by rw[←G2];exact h
 unfold AF;rw[dif_pos (by rw[Int.toNat_natCast];exact hs)];simp[W,ByteArray.getElem_eq_getElem_data]
theorem U9 (s:ByteArray) (i:Nat) (h:i<(W s).length):(W s)[i]<256:=by
 simp only[W,List.getElem_map];exact UInt8.toNat_lt _
def sl (w:List Nat) (i j:Nat):List Nat:=(w.drop i).take (j-i)
theorem LS (w:List Nat) (i:Nat):sl w i i=[]:=by simp[sl]
theorem Rs (w:List Nat):sl w 0 w.length=w:=by simp[sl]
theorem I0 {w:List Nat} {i j:Nat} (h:i≤j) (hj:j≤w.length):(sl w i j).length=j-i:=by simp[sl];omega
theorem OG {w:List Nat} {i m j:Nat} (h1:i≤m) (h2:m≤j):sl w i m++sl w m j=sl w i j:=by
 unfold sl;rw[show j-i=(m-i)+(j-m)by omega,List.take_add,List.drop_drop,show i+(m-i)=m by omega]
theorem J3 {w:List Nat} {i j:Nat} (h:i≤j) (hj:j≤w.length) {x y:List Nat} (e:sl w i j=x++y):∃ m,i≤m∧m≤j∧sl w i m=x∧sl w m j=y:=by
 have hl:=I0 h hj;rw[e,List.length_append]at hl;refine⟨i+x.length,by omega,by omega,?_,?_⟩
 ·have:(sl w i j).take x.length=x:=by rw[e];exact List.take_left ..
  unfold sl at this⊢
  rw[List.take_take]at this;rw[show i+x.length-i=min x.length (j-i)by omega];exact this
 ·have:(sl w i j).drop x.length=y:=by rw[e];exact List.drop_left ..
  unfold sl at this⊢
  rw[List.drop_take,List.drop_drop]at this;rw[show j - (i+x.length)=j-i-x.length by omega];exact this
theorem Nn {w:List Nat} {i:Nat} (h:i<w.length):sl w i (i+1)=[w[i]]:=by
 unfold sl;rw[show i+1-i=1 by omega,List.drop_eq_getElem_cons h];rfl
def EN (P:List Nat→Prop) (w:List Nat) (p q:List Bool):Prop:=q.length=w.length+1∧∀ j:Nat,j≤w.length→(AC q (j:Int)=true↔∃ i:Nat,i≤j∧AC p (i:Int)=true∧P (sl w i j))
theorem EN.congr {P Q:List Nat→Prop} {w:List Nat} {p q:List Bool} (h:EN P w p q) (e:∀ v,P v↔Q v):EN Q w p q:=
 ⟨h.1,fun j hj=>by
   rw[h.2 j hj];constructor
   ·rintro⟨i,a,b,c⟩;exact⟨i,a,b,(e _).1 c⟩
   ·rintro⟨i,a,b,c⟩;exact⟨i,a,b,(e _).2 c⟩⟩
theorem EN.non {w:List Nat} {p:List Bool} (hp:p.length=w.length+1):EN (fun v=>v=[]) w p p:=by
 refine⟨hp,fun j hj=>⟨fun h=>⟨j,Nat.le_refl _,h,LS w j⟩,?_⟩⟩;rintro⟨i,a,b,c⟩;have:=I0 a hj;rw[c]at this;have:i=j:=by simp at this;omega
 rw[←this];exact b
theorem EN.cat {P Q:List Nat→Prop} {w:List Nat} {p m q:List Bool} (h:EN P w p m) (k:EN Q w m q):EN (fun v=>∃ x y,v=x++y∧P x∧Q y) w p q:=by
 refine⟨k.1,fun j hj=>?_⟩;rw[k.2 j hj];constructor
 ·rintro⟨l,a,b,c⟩;obtain⟨i,a',b',c'⟩:=(h.2 l (by omega)).1 b;exact⟨i,by omega,b',_,_,(OG a' a).symm,c',c⟩
 ·rintro⟨i,a,b,x,y,e,hx,hy⟩;obtain⟨l,l1,l2,rfl,rfl⟩:=J3 a hj e;exact⟨l,l2,(h.2 l (by omega)).2 ⟨i,l1,b,hx⟩,hy⟩
def Kg (x y:List Bool):List Bool:=List.zipWith (fun a b=>a||b) x y
theorem Iq {x y:List Bool} (h:x.length=y.length):(Kg x y).length=x.length:=by simp[Kg,h]
theorem Gi {x y:List Bool} (h:x.length=y.length) (i:Nat) (hi:i<x.length):AC (Kg x y) (i:Int)=(AC x (i:Int)||AC y (i:Int)):=by
 rw[Ai _ i (by rw[Iq h];exact hi),Ai x i hi,Ai y i (by omega)];simp[Kg]
theorem EN.or {P Q:List Nat→Prop} {w:List Nat} {p x y:List Bool} (h:EN P w p x) (k:EN Q w p y):EN (fun v=>P v∨Q v) w p (Kg x y):=by
 have e:x.length=y.length:=by rw[h.1,k.1]
 refine⟨by rw[Iq e,h.1],fun j hj=>?_⟩;rw[Gi e j (by rw[h.1];omega),Bool.or_eq_true,h.2 j hj,k.2 j hj];constructor
 ·rintro (⟨i,a,b,c⟩|⟨i,a,b,c⟩)
  ·exact⟨i,a,b,.inl c⟩
  ·exact⟨i,a,b,.inr c⟩
 ·rintro⟨i,a,b,c|c⟩
  ·exact .inl ⟨i,a,b,c⟩
  ·exact .inr ⟨i,a,b,c⟩
def SO (P:List Nat→Prop) (w:List Nat) (p x:List Bool):Prop:=∀ j:Nat,j≤w.length→AC x (j:Int)=true→∃ i:Nat,i≤j∧AC p (i:Int)=true∧SL P (sl w i j)
theorem SO.self (P:List Nat→Prop) (w:List Nat) (p:List Bool):SO P w p p:=fun j hj h=>⟨j,Nat.le_refl _,h,by rw[LS];exact .nil⟩
theorem SO.or {P:List Nat→Prop} {w:List Nat} {p x q:List Bool} (h:SO P w p x) (hx:x.length=w.length+1) (k:EN P w x q):SO P w p (Kg x q):=by
 intro j hj hb;have e:x.length=q.length:=by rw[hx,k.1]
 rw[Gi e j (by omega),Bool.or_eq_true]at hb;rcases hb with hb|hb
 ·exact h j hj hb
 ·obtain⟨m,a,b,c⟩:=(k.2 j hj).1 hb;obtain⟨i,a',b',c'⟩:=h m (by omega) b;refine⟨i,by omega,b',?_⟩;rw[←OG a' a];exact c'.app c
theorem SL.close {P:List Nat→Prop} {w:List Nat} {x:List Bool} (hc:∀ i j:Nat,i≤j→j≤w.length→AC x (i:Int)=true→P (sl w i j)→AC x (j:Int)=true):∀ v,SL P v→∀ i j:Nat,i≤j→j≤w.length→sl w i j=v→AC x (i:Int)=true→AC x (j:Int)=true:=by
 intro v h
 induction h with
 | nil=>
   intro i j a b e h;have:=I0 a b;rw[e]at this;have:i=j:=by simp at this;omega
   rw[←this];exact h
 | step u v hu hp _ ih=>
   intro i j a b e h;obtain⟨m,m1,m2,rfl,rfl⟩:=J3 a b e;exact ih m j m2 b rfl (hc i m m1 (by omega) h hp)
theorem EN.star {P:List Nat→Prop} {w:List Nat} {p x:List Bool} (hs:SO P w p x) (hx:x.length=w.length+1) (hl:LE p x) (hc:∀ i j:Nat,i≤j→j≤w.length→AC x (i:Int)=true→P (sl w i j)→AC x (j:Int)=true):EN (SL P) w p x:=by
 refine⟨hx,fun j hj=>⟨hs j hj,?_⟩⟩;rintro⟨i,a,b,c⟩;exact SL.close hc _ c i j a hj rfl (hl _ (by omega) b)
theorem QX {x:List Bool} (h:x.length≤cnt x) (j:Nat) (hj:j<x.length):AC x (j:Int)=true:=by
 have h':x.count true=x.length:=Nat.le_antisymm (JT x) h;rw[Ai x j hj];exact(List.count_eq_length.1 h' _ (List.getElem_mem hj)).symm
theorem Qb (x y:List Bool) (hl:x.length=y.length) (hz:x.length≤2000):∀ (m i fuel:Nat) (a:List Bool),i+m=x.length→m<fuel→a.length≤i→CW KK x y fuel a (i:Int)=some (a++Kg (x.drop i) (y.drop i))
 | 0,i,f+1,a,hi,_,_=>by
   rw[CW.eq_2,if_neg (by omega),List.drop_of_length_le (by omega)];show some a=some (a++[]);rw[List.append_nil]
 | m+1,i,f+1,a,hi,hf,ha=>by
   have h1:i<x.length:=by omega
   have h2:i<y.length:=by omega
   have hlen:∀ b:Bool,(a++([b]:List Bool)).length*1≤140737488355328:=fun b=>by simp;omega
   rw[CW.eq_2,if_pos (by omega),if_pos ⟨by omega,by omega⟩,Ai x i h1,Ai y i h2,List.drop_eq_getElem_cons h1,List.drop_eq_getElem_cons h2];show _=some (a++((x[i]||y[i])::Kg (x.drop (i+1)) (y.drop (i+1))));have ih:=Qb x y hl hz m (i+1) f (a++[x[i]||y[i]]) (by omega) (by omega) (by simp;omega);rw[List.append_assoc]at ih;unfold Fj;rw[CH (by omega) (by omega)]
   cases hx:x[i]with
   | true=>
     rw[hx]at ih;rw[if_pos rfl,if_pos (hlen _)];exact_mod_cast ih
   | false=>
     rw[hx]at ih;rw[if_neg (by decide),if_pos ⟨by omega,by omega⟩,if_pos (hlen _)];exact_mod_cast ih
theorem KV {x y:List Bool} (hl:x.length=y.length) (hz:x.length≤2000):Kl KK x y=some (Kg x y):=by
 have:=Qb x y hl hz x.length 0 KK [] (by omega) (by show _<20000;omega) (by simp);unfold Kl;exact this
theorem KA (rec7:List Bool→Int→Option (List Bool)) (x:List Bool) (x6:Int) (t:List Bool) (hl:x.length=t.length) (hz:x.length≤2000):∀ (m i fuel:Nat) (b:Bool),i+m=t.length→m<fuel→
 Ct KK rec7 x x6 t fuel b (i:Int)=Fp KK rec7 x6 t (b&&decide (t.drop i=x.drop i))
 | 0,i,f+1,b,hi,_=>by
   rw[Ct.eq_2,if_neg (by omega),List.drop_of_length_le (by omega),List.drop_of_length_le (by omega)];simp
 | m+1,i,f+1,b,hi,hf=>by
   have h1:i<t.length:=by omega
   have h2:i<x.length:=by omega
   rw[Ct.eq_2,if_pos (by omega),Ai t i h1,Ai x i h2,List.drop_eq_getElem_cons h1,List.drop_eq_getElem_cons h2,CH (by omega) (by omega)];have ih:=fun b=>KA rec7 x x6 t hl hz m (i+1) f b (by omega) (by omega);have e:decide (t[i]::t.drop (i+1)=x[i]::x.drop (i+1))=((t[i]==x[i])&&decide (t.drop (i+1)=x.drop (i+1))):=by
    rw[Bool.eq_iff_iff,decide_eq_true_iff,Bool.and_eq_true,beq_iff_eq,decide_eq_true_iff,List.cons.injEq]
   rw[e]
   cases b with
   | true=>
     rw[if_pos rfl,if_pos ⟨by omega,by omega⟩,if_pos ⟨by omega,by omega⟩,Option.bind_some,Bool.true_and];exact_mod_cast ih (t[i]==x[i])
   | false=>
     rw[if_neg (by decide),Option.bind_some,Bool.false_and];have:=ih false;rw[Bool.false_and]at this;exact_mod_cast this
theorem J7 (self:List AE→ByteArray→List Bool→Option (List Bool)) (p0:List AE) (s:ByteArray) (hs:s.size≤1000) (P:List Nat→Prop) (H:∀ p:List Bool,p.length=s.size+1→∃ q,self p0 s p=some q∧EN P (W s) p q) (p:List Bool):∀ (d i fuel:Nat) (x:List Bool),i+d=s.size+1→d<fuel→x.length=s.size+1→i≤cnt x→LE p x→SO P (W s) p x→
 ∃ q,CQ KK self p0 s fuel x (i:Int)=some q∧EN (SL P) (W s) p q
 | 0,i,f+1,x,hi,_,hx,hc,hl,hso=>by
   have hw:=G2 s;rw[CQ.eq_2,if_neg (by omega)];exact⟨x,rfl,EN.star hso (by rw[hw,hx]) hl fun a b _ hb _ _=>QX (by omega) b (by omega)⟩
 | d+1,i,f+1,x,hi,hf,hx,hc,hl,hso=>by
   have hw:=G2 s;obtain⟨q,q1,q2⟩:=H x hx;have e:x.length=q.length:=by rw[hx,q2.1,hw]
   have hol:=Iq e;have hle:LE x (Kg x q):=fun z hz h=>by
    have hz':z.toNat<x.length:=by
     rw[Hk]at h;exact(List.getElem?_eq_some_iff.1 h).1
    have:=Gi e z.toNat hz';rw[show ((z.toNat:Nat):Int)=z by omega]at this;rw[this,h];rfl
   rw[CQ.eq_2,if_pos (by omega),q1,Option.bind_some,KV e (by omega),Option.bind_some];have l3:=KA (CQ KK self p0 s f) x (i:Int) (Kg x q) (by rw[hol]) (by omega) (Kg x q).length 0 KK true (by omega) (by show _<20000;omega);rw[Int.natCast_zero]at l3;rw[l3,List.drop_zero,List.drop_zero,Bool.true_and];unfold Fp Gp;by_cases a:Kg x q=x
   ·rw[if_pos (decide_eq_true a),a];refine⟨x,rfl,EN.star hso (by rw[hw,hx]) hl fun u v huv hv hu hp=>?_⟩;have:AC q (v:Int)=true:=(q2.2 v hv).2 ⟨u,huv,hu,hp⟩;have g:=Gi e v (by omega);rw[a,this,Bool.or_true]at g;exact g
   ·rw[if_neg (by simpa using a),CH (by omega) (by omega)];have hcn:cnt x<cnt (Kg x q):=by
     rcases hle.cnt (by rw[hol])with k|k
     ·exact absurd k.symm a
     ·exact k
    have ih:=J7 self p0 s hs P H p d (i+1) f (Kg x q) (by omega) (by omega) (by rw[hol,hx]) (by omega) (hl.trans hle) (hso.or (by rw[hw,hx]) q2);exact_mod_cast ih
theorem OK {st:Vector Int 4} (hu:U st) (s:ByteArray) (hs:s.size≤1000) (p:List Bool) (hp:p.length=s.size+1):∀ (m i fuel:Nat) (x:List Bool),i+m=s.size→m<fuel→x.length=s.size+1→
 (∀ j:Nat,j≤s.size→(AC x (j:Int)=true↔∃ u:Nat,j=u+1∧u<i∧AC p (u:Int)=true∧∃ h:u<(W s).length,tb st (W s)[u]=true))→
 ∃ q,CP KK (AP (.one st)) s p fuel x (i:Int)=some q∧EN (Lx (.one st)) (W s) p q
 | 0,i,f+1,x,hi,_,hx,hq=>by
   have hw:=G2 s;rw[CP.eq_2,if_neg (by omega)];refine⟨x,rfl,by rw[hx,hw],fun j hj=>?_⟩;rw[hq j (by omega)];constructor
   ·rintro⟨u,rfl,u1,u2,u3,u4⟩;exact⟨u,by omega,u2,(W s)[u],Nn u3,u4⟩
   ·rintro⟨u,u1,u2,b,e,hb⟩;have hl:=I0 u1 hj;rw[e]at hl;simp at hl;have:j=u+1:=by omega
    subst this;have h3:u<(W s).length:=by omega
    rw[Nn h3]at e;exact⟨u,rfl,by omega,u2,h3,by rw[(List.cons.inj e).1];exact hb⟩
 | m+1,i,f+1,x,hi,hf,hx,hq=>by
   have hw:=G2 s;have h3:i<(W s).length:=by omega
   have hb:=U9 s i h3;have g:0≤(i:Int)∧(i:Int)<(s.size:Int):=⟨by omega,by omega⟩;have e1:AH (((AP (.one st)).length:Int) -1)=0:=by
    rw[show ((AP (.one st)).length:Int)=1 from rfl];rfl
   have g2:0≤(0:Int)∧(0:Int)<((AP (.one st)).length:Int):=⟨by decide,by show (0:Int)<1;decide⟩;have key:∀ b:Bool,(b=true↔AC p (i:Int)=true∧tb st (W s)[i]=true)→∀ j:Nat,j≤s.size→(AC (Ac x ((i:Int)+1) b) (j:Int)=true↔∃ u:Nat,j=u+1∧u<i+1∧AC p (u:Int)=true∧∃ h:u<(W s).length,tb st (W s)[u]=true):=by
    intro b hbi j hj;rw[HJ x _ _ b (by omega) (by omega) (by omega)];by_cases c:(j:Int)=(i:Int)+1
    ·rw[if_pos c,hbi];have:j=i+1:=by omega
     subst this;constructor
     ·rintro⟨a1,a2⟩;exact⟨i,rfl,by omega,a1,h3,a2⟩
     ·rintro⟨u,hu1,_,a1,_,a2⟩;obtain rfl:i=u:=by omega
      exact⟨a1,a2⟩
    ·rw[if_neg c,hq j hj];constructor
     ·rintro⟨u,hu1,hu2,r⟩;exact⟨u,hu1,by omega,r⟩
     ·rintro⟨u,hu1,hu2,r⟩;exact⟨u,hu1,by omega,r⟩
   have go:=fun b (hbi:b=true↔AC p (i:Int)=true∧tb st (W s)[i]=true)=>OK hu s hs p hp m (i+1) f (Ac x ((i:Int)+1) b) (by omega) (by omega) (by rw[BN,hx]) (key b hbi);rw[CP.eq_2,if_pos g.2,if_pos ⟨by omega,by omega⟩,e1,if_pos g2,if_pos g,show AC (AP (.one st)) (0:Int)=AE.mk 1 st from rfl,TW s i h3,CH (x:=(((W s)[i]:Nat):Int)) (by omega) (by omega),CH (x:=(i:Int)+1) (by omega) (by omega)];unfold Fg;rw[CH (x:=(i:Int)+1) (by omega) (by omega)];have g4:0≤(i:Int)+1∧(i:Int)+1<(x.length:Int):=⟨by omega,by omega⟩;by_cases c:AC p (i:Int)=true
   ·rw[if_pos c,JC hu hb,Option.bind_some,if_pos g4];have:=go (tb st (W s)[i]) ⟨fun h=>⟨c,h⟩,fun h=>h.2⟩;exact_mod_cast this
   ·rw[if_neg c,if_pos g4];have:=go false ⟨fun h=>(Bool.noConfusion h),fun h=>absurd h.1 c⟩;exact_mod_cast this
theorem Rm (s:ByteArray) (hs:s.size≤1000):∀ (t:Rx),Fv t→(AP t).length≤2000→∀ (j:Nat) (p:List Bool),2*(AP t).length≤j→p.length=s.size+1→∃ q,BO KK j (AP t) s p=some q∧EN (Lx t) (W s) p q:=by
 have hw:=G2 s;intro t
 induction t with
 | non=>
   intro ht hz j p hj hp;obtain⟨j,rfl⟩:∃ i,j=i+1:=⟨j-1,by have:=BU .non;omega⟩;have e0:(AE.mk (MQ .non) (IJ .non)).f0=0:=rfl;rw[BO.eq_2,if_pos ⟨by omega,by omega,by omega⟩,Dy ht (by omega),Option.bind_some,E3 (by omega),if_pos ⟨by omega,by have:=BU .non;omega⟩,Dq,e0,if_pos rfl];exact⟨p,rfl,EN.non (by rw[hp,hw])⟩
 | one st=>
   intro ht hz j p hj hp;have hps:=BU (.one st);obtain⟨j,rfl⟩:∃ i,j=i+1:=⟨j-1,by omega⟩;have e0:(AE.mk (MQ (.one st)) (IJ (.one st))).f0=1:=rfl;rw[BO.eq_2,if_pos ⟨by omega,by omega,by omega⟩,Dy ht (by omega),Option.bind_some,E3 (by omega),if_pos ⟨by omega,by omega⟩,Dq,e0,if_neg (by decide),if_pos rfl]
   have:=OK ht.1 s hs p hp s.size 0 KK (List.replicate (p.length:Int).toNat false) (by omega) (by show _<20000;omega) (by simp[hp]) (fun j _=>by
    rw[IQ];constructor
    ·intro h;cases h
    ·rintro⟨u,_,h,_⟩;omega)
   exact_mod_cast this
 | cat a b iha ihb=>
   intro ht hz j p hj hp;have hlen:(AP (.cat a b)).length=(AP a).length+(AP b).length+1:=by simp only[AP,List.length_append,List.length_cons,List.length_nil]
   obtain⟨j,rfl⟩:∃ i,j=i+1:=⟨j-1,by omega⟩;have e0:(AE.mk (MQ (.cat a b)) (IJ (.cat a b))).f0=2:=rfl;have g:((CI (.cat a b)).length:Int)=2:=rfl;have g0:AC (CI (.cat a b)) (0:Int)=AP a:=rfl;have g1:AC (CI (.cat a b)) (1:Int)=AP b:=rfl;obtain⟨q,q1,q2⟩:=iha ht.1 (by omega) j p (by omega) hp;obtain⟨r,r1,r2⟩:=ihb ht.2 (by omega) j q (by omega) (by rw[q2.1,hw]);rw[BO.eq_2,if_pos ⟨by omega,by omega,by omega⟩,Dy ht (by omega),Option.bind_some,E3 (by omega),if_pos ⟨by omega,by omega⟩,Dq,e0,g,if_neg (by decide),if_neg (by decide),if_pos rfl,if_pos (by decide),if_pos (by decide),g0,q1,Option.bind_some,g1,r1,Option.bind_some];exact⟨r,rfl,q2.cat r2⟩
 | alt a b iha ihb=>
   intro ht hz j p hj hp;have hlen:(AP (.alt a b)).length=(AP a).length+(AP b).length+1:=by simp only[AP,List.length_append,List.length_cons,List.length_nil]
   obtain⟨j,rfl⟩:∃ i,j=i+1:=⟨j-1,by omega⟩;have e0:(AE.mk (MQ (.alt a b)) (IJ (.alt a b))).f0=3:=rfl;have g:((CI (.alt a b)).length:Int)=2:=rfl;have g0:AC (CI (.alt a b)) (0:Int)=AP a:=rfl;have g1:AC (CI (.alt a b)) (1:Int)=AP b:=rfl;obtain⟨q,q1,q2⟩:=iha ht.1 (by omega) j p (by omega) hp;obtain⟨r,r1,r2⟩:=ihb ht.2 (by omega) j p (by omega) hp;have hq:=q2.1;have hr:=r2.1;rw[BO.eq_2,if_pos ⟨by omega,by omega,by omega⟩,Dy ht (by omega),Option.bind_some,E3 (by omega),if_pos ⟨by omega,by omega⟩,Dq,e0,g,if_neg (by decide),if_neg (by decide),if_neg (by decide),if_pos rfl,if_pos (by decide),g0,q1,Option.bind_some,if_pos (by decide),g1,r1,Option.bind_some,KV (by omega) (by omega),Option.bind_some];exact⟨_,rfl,q2.or r2⟩
 | un k a iha=>
   intro ht hz j p hj hp;have hlen:(AP (.un k a)).length=(AP a).length+1:=by simp[AP]
   have hpa:=BU a;have k1:=ht.1;have k2:=ht.2.1;obtain⟨j,rfl⟩:∃ i,j=i+1+1:=⟨j-2,by omega⟩;have e0:(AE.mk (MQ (.un k a)) (IJ (.un k a))).f0=k:=rfl;have g:((CI (.un k a)).length:Int)=1:=rfl;have g0:AC (CI (.un k a)) (0:Int)=AP a:=rfl;have st:∀ x:List Bool,x.length=s.size+1→∃ q,Em KK (j+1) (AP a) s x=some q∧EN (SL (Lx a)) (W s) x q:=by
    intro x hx;have:=J7 (BO KK j) (AP a) s hs (Lx a) (fun p hp=>iha ht.2.2 (by omega) j p (by omega) hp) x (s.size+1) 0 KK x (by omega) (by show _<20000;omega) hx (by omega) (LE.refl x) (SO.self _ _ _);rw[Int.natCast_zero]at this;rw[Em.eq_2];exact this
   rw[BO.eq_2,if_pos ⟨by omega,by omega,by omega⟩,Dy ht (by omega),Option.bind_some];unfold Gg;rw[E3 (by omega),if_pos ⟨by omega,by omega⟩,Dq,e0,g,g0,if_neg (by omega),if_neg (by omega),if_neg (by omega),if_neg (by omega)];by_cases k6:k=6
   ·obtain⟨q,q1,q2⟩:=iha ht.2.2 (by omega) (j+1) p (by omega) hp;have hq:=q2.1;rw[if_pos k6,if_pos (by decide),q1,Option.bind_some,KV (by omega) (by omega),Option.bind_some];refine⟨_,rfl,((EN.non (by rw[hp,hw])).or q2).congr fun v=>?_⟩
    conv=>rhs;unfold Lx
    rw[if_pos k6]
   ·rw[if_neg k6];by_cases k4:k=4
    ·obtain⟨q,q1,q2⟩:=st p hp;rw[if_pos ⟨by omega,by omega⟩,if_pos k4,if_pos (by decide),q1,Option.bind_some];refine⟨_,rfl,q2.congr fun v=>?_⟩
     conv=>rhs;unfold Lx
     rw[if_neg k6,if_pos k4]
    ·obtain⟨q,q1,q2⟩:=iha ht.2.2 (by omega) (j+1) p (by omega) hp;obtain⟨r,r1,r2⟩:=st q (by rw[q2.1,hw]);rw[if_pos ⟨by omega,by omega⟩,if_neg k4,if_pos (by decide),if_pos (by decide),q1,Option.bind_some,r1,Option.bind_some];refine⟨_,rfl,(q2.cat r2).congr fun v=>?_⟩
     conv=>rhs;unfold Lx
     rw[if_neg k6,if_neg k4]
theorem Ow {t:Rx} (ht:Fv t) (hz:(AP t).length≤400) (s:ByteArray) (hs:s.size≤1000):∃ b,SW KK (AP t) s=some b∧(b=true↔Lx t (W s)):=by
 have hw:=G2 s;have e1:AH ((s.size:Int)+1)=((s.size+1:Nat):Int):=by rw[CH (by omega) (by omega)];omega
 obtain⟨q,q1,q2⟩:=Rm s hs t ht (by omega) KK (Ac (List.replicate (s.size+1) false) (0:Int) true) (by show _≤20000;omega) (by rw[BN,List.length_replicate]);have hq:=q2.1;refine⟨AC q (s.size:Int),?_,?_⟩
 ·unfold SW;rw[e1,Int.toNat_natCast,if_pos ⟨by omega,by omega,by omega⟩,if_pos ⟨by omega,by rw[List.length_replicate];omega⟩];unfold SD;rw[q1,Option.bind_some,if_pos ⟨by omega,by omega⟩]
 ·rw[q2.2 s.size (by omega)];have one:∀ i:Nat,AC (Ac (List.replicate (s.size+1) false) (0:Int) true) (i:Int)=true↔i=0:=by
   intro i;rw[HJ _ _ _ _ (by omega) (by rw[List.length_replicate];omega) (by omega),IQ];by_cases c:(i:Int)=0
   ·rw[if_pos c];simp;omega
   ·rw[if_neg c];simp;omega
  have hall:sl (W s) 0 s.size=W s:=by rw[←hw];exact Rs _
  constructor
  ·rintro⟨i,a,b,c⟩;rw[one]at b;subst b;rw[hall]at c;exact c
  ·intro h;exact⟨0,by omega,(one 0).2 rfl,by rw[hall];exact h⟩
def fe (a b:Int):AR:=AR.mk a b (Vector.replicate 4 (0:Int)) true
def NE (q:Nat) (p:AE) (st:List Ar):List AR:=
 let A:=AC st ((st.length-2:Nat):Int)
 let B:=AC st ((st.length-1:Nat):Int)
 if p.f0=0 then [fe (q:Int) ((q+1:Nat):Int)]
 else if p.f0=1 then [AR.mk (q:Int) ((q+1:Nat):Int) p.f1 false]
 else if p.f0=2 then [fe (q:Int) A.f0,fe A.f1 B.f0,fe B.f1 ((q+1:Nat):Int)]
 else if p.f0=3 then [fe (q:Int) A.f0,fe A.f1 ((q+1:Nat):Int),fe (q:Int) B.f0,fe B.f1 ((q+1:Nat):Int)]
 else [fe (q:Int) B.f0,fe B.f1 ((q+1:Nat):Int)]++(if p.f0≠6 then [fe B.f1 B.f0]else [])++(if p.f0≠5 then [fe (q:Int) ((q+1:Nat):Int)]else [])
theorem Py {q:Nat} {x y:Int} {p:AE} {st:List Ar} {E':List AR} (t5:Ar×BD) (h5:t5.1=Ar.mk (q:Int) ((q+1:Nat):Int)) (hk:0≤DR p.f0∧(DR p.f0).toNat≤st.length) (hs:st.length≤10000):
 C2 20000 p st t5 ((q+2:Nat):Int) E' x y=some (st.take (st.length - (DR p.f0).toNat)++[Ar.mk (q:Int) ((q+1:Nat):Int)],Fx (q+2) E' x y):=by
 unfold C2;have ew:AH ((st.length:Int) -DR p.f0)=((st.length - (DR p.f0).toNat:Nat):Int):=by
  rw[CH (by omega) (by omega)];omega
 rw[H6,Option.bind_some,ew,if_pos ⟨by omega,by omega⟩,Int.toNat_natCast,h5,if_pos (by simp;omega)]
theorem RQ {q:Nat} {x y:Int} {p:AE} {st:List Ar} {E:List AR} (hq:q≤10000) (hk:0≤DR p.f0∧(DR p.f0).toNat≤st.length) (hs:st.length≤10000) (hz:E.length≤10000):
 Si 20000 (Fx q E x y) p st=some (st.take (st.length - (DR p.f0).toNat)++[Ar.mk (q:Int) ((q+1:Nat):Int)],Fx (q+2) (E++NE q p st) x y):=by
 generalize hR:some (st.take (st.length - (DR p.f0).toNat)++[Ar.mk (q:Int) ((q+1:Nat):Int)],Fx (q+2) (E++NE q p st) x y)=R;unfold Si;show (SV 20000 (Fx q E x y)).bind _=_;rw[Nu (by omega),Option.bind_some];generalize ht5:(Ar.mk (q:Int) ((q+1:Nat):Int),Fx (q+2) E x y)=t5;have e51:t5.1=Ar.mk (q:Int) ((q+1:Nat):Int):=by rw[←ht5]
 have e52:t5.2=Fx (q+2) E x y:=by rw[←ht5]
 have fin:∀ E',E'=E++NE q p st→C2 20000 p st t5 ((q+2:Nat):Int) E' x y=R:=fun E' h=>by
  rw[Py t5 e51 hk hs,h,hR]
 rw[e52,e51];by_cases k0:p.f0=0
 ·rw[if_pos k0];show (GT 20000 (Fx (q+2) E x y) _ _).bind _=_;rw[Bt (by omega),Option.bind_some];exact fin _ (by unfold NE;rw[if_pos k0];rfl)
 ·rw[if_neg k0];by_cases k1:p.f0=1
  ·rw[if_pos k1];show (if(E++[AR.mk (q:Int) ((q+1:Nat):Int) p.f1 false]).length*56≤140737488355328 then _ else _)=_;rw[if_pos (by simp;omega)];exact fin _ (by unfold NE;rw[if_neg k0,if_pos k1])
  ·rw[if_neg k1];by_cases k2:p.f0=2
   ·have et:DR p.f0=2:=by rw[k2];rfl
    have hl2:2≤st.length:=by rw[et]at hk;exact hk.2
    have w1:AH ((st.length:Int) -2)=((st.length-2:Nat):Int):=by rw[CH (by omega) (by omega)];omega
    have w2:AH ((st.length:Int) -1)=((st.length-1:Nat):Int):=by rw[CH (by omega) (by omega)];omega
    rw[if_pos k2,w1,w2,if_pos ⟨by omega,by omega⟩,if_pos ⟨by omega,by omega⟩];show (GT 20000 (Fx (q+2) E x y) _ _).bind _=_;rw[Bt (by omega),Option.bind_some];show (GT 20000 (Fx (q+2) _ x y) _ _).bind _=_;rw[Bt (by simp;omega),Option.bind_some];show (GT 20000 (Fx (q+2) _ x y) _ _).bind _=_;rw[Bt (by simp;omega),Option.bind_some];exact fin _ (by unfold NE;rw[if_neg k0,if_neg k1,if_pos k2];simp[fe])
   ·rw[if_neg k2];by_cases k3:p.f0=3
    ·have et:DR p.f0=2:=by rw[k3];rfl
     have hl2:2≤st.length:=by rw[et]at hk;exact hk.2
     have w1:AH ((st.length:Int) -2)=((st.length-2:Nat):Int):=by rw[CH (by omega) (by omega)];omega
     have en:(((st.length - (((st.length-2:Nat):Int)).toNat:Nat):Nat):Int)=2:=by rw[Int.toNat_natCast];omega
     have i1:((st.length-2:Nat):Int)+0=((st.length-2:Nat):Int):=by omega
     have i2:((st.length-2:Nat):Int)+1=((st.length-1:Nat):Int):=by omega
     have u1:AH ((0:Int)+1)=1:=CH (by omega) (by omega);have u2:AH ((1:Int)+1)=2:=CH (by omega) (by omega);rw[if_pos k3,w1,if_pos ⟨by omega,by omega⟩];show Cj 20000 p st t5 (19997+1+1+1) ((q+2:Nat):Int) E x y (0:Int)=_;rw[Cj.eq_2,w1,en,if_pos (by decide),if_pos (by decide),i1,e51];show (GT 20000 (Fx (q+2) E x y) _ _).bind _=_;rw[Bt (by omega),Option.bind_some];show (GT 20000 (Fx (q+2) _ x y) _ _).bind _=_;rw[Bt (by simp;omega),Option.bind_some,u1];show Cj 20000 p st t5 (19997+1+1) ((q+2:Nat):Int) _ x y (1:Int)=_;rw[Cj.eq_2,w1,en,if_pos (by decide),if_pos (by decide),i2,e51];show (GT 20000 (Fx (q+2) _ x y) _ _).bind _=_;rw[Bt (by simp;omega),Option.bind_some];show (GT 20000 (Fx (q+2) _ x y) _ _).bind _=_;rw[Bt (by simp;omega),Option.bind_some,u2];show Cj 20000 p st t5 (19997+1) ((q+2:Nat):Int) _ x y (2:Int)=_;rw[Cj.eq_2,w1,en,if_neg (by decide)];exact fin _ (by unfold NE;rw[if_neg k0,if_neg k1,if_neg k2,if_pos k3];simp[fe])
    ·have et:1≤DR p.f0:=by
      have:=hk.1;unfold DR at this⊢
      rw[if_neg (by omega)]at this⊢
      split
      ·omega
      ·rw[if_neg (by assumption),if_neg (by omega)]at this;omega
     have w2:AH ((st.length:Int) -1)=((st.length-1:Nat):Int):=by rw[CH (by omega) (by omega)];omega
     rw[if_neg k3,w2,if_pos ⟨by omega,by omega⟩];show (GT 20000 (Fx (q+2) E x y) _ _).bind _=_;rw[Bt (by omega),Option.bind_some];show (GT 20000 (Fx (q+2) _ x y) _ _).bind _=_;rw[Bt (by simp;omega),Option.bind_some];have fin2:∀ E2:List AR,E2.length≤E.length+3→E2++(if p.f0≠5 then [fe (q:Int) ((q+1:Nat):Int)]else [])=E++NE q p st→GK 20000 p st t5 ((q+2:Nat):Int) E2 x y=R:=by
      intro E2 l2 o2;unfold GK;rw[e51];by_cases k5:p.f0≠5
      ·rw[if_pos k5]at o2⊢
       show (GT 20000 (Fx (q+2) E2 x y) _ _).bind _=_;rw[Bt (by omega),Option.bind_some];exact fin _ o2
      ·rw[if_neg k5]at o2⊢
       rw[List.append_nil]at o2;exact fin _ o2
     by_cases k6:p.f0≠6
     ·rw[if_pos k6];show (GT 20000 (Fx (q+2) _ x y) _ _).bind _=_;rw[Bt (by simp;omega),Option.bind_some];exact fin2 _ (by simp) (by unfold NE;rw[if_neg k0,if_neg k1,if_neg k2,if_neg k3,if_pos k6];simp[fe])
     ·rw[if_neg k6];exact fin2 _ (by simp) (by unfold NE;rw[if_neg k0,if_neg k1,if_neg k2,if_neg k3,if_neg k6];simp[fe])
def Mv (t:Rx) (q:Nat):Nat:=q+2*((AP t).length-1)
def qb (a:Rx) (q:Nat):Nat:=q+2*(AP a).length
def gI (t:Rx) (q:Nat):Int:=(Mv t q:Int)
def gO (t:Rx) (q:Nat):Int:=((Mv t q+1:Nat):Int)
def gr:Rx→Nat→List AR
 | .non,q=>[fe (gI .non q) (gO .non q)]
 | .one s,q=>[AR.mk (gI (.one s) q) (gO (.one s) q) s false]
 | .cat a b,q=>gr a q++gr b (qb a q)++[fe (gI (.cat a b) q) (gI a q),fe (gO a q) (gI b (qb a q)),fe (gO b (qb a q)) (gO (.cat a b) q)]
 | .alt a b,q=>gr a q++gr b (qb a q)++[fe (gI (.alt a b) q) (gI a q),fe (gO a q) (gO (.alt a b) q),fe (gI (.alt a b) q) (gI b (qb a q)),fe (gO b (qb a q)) (gO (.alt a b) q)]
 | .un k a,q=>gr a q++([fe (gI (.un k a) q) (gI a q),fe (gO a q) (gO (.un k a) q)]++(if k≠6 then [fe (gO a q) (gI a q)]else [])++(if k≠5 then [fe (gI (.un k a) q) (gO (.un k a) q)]else []))
def gP (t:Rx) (q:Nat):Ar:=Ar.mk (gI t q) (gO t q)
theorem EH:∀ (t:Rx) (q:Nat),(gr t q).length≤4*(AP t).length
 | .non,q=>by simp[gr,AP]
 | .one s,q=>by simp[gr,AP]
 | .cat a b,q=>by have:=EH a q;have:=EH b (qb a q);simp[gr,AP];omega
 | .alt a b,q=>by have:=EH a q;have:=EH b (qb a q);simp[gr,AP];omega
 | .un k a,q=>by
   have:=EH a q;have h1:(if k≠6 then [fe (gO a q) (gI a q)]else []).length≤1:=by split<;>simp
   have h2:(if k≠5 then [fe (gI (.un k a) q) (gO (.un k a) q)]else []).length≤1:=by split<;>simp
   simp only[gr,AP,List.length_append,List.length_cons,List.length_nil];omega
theorem VV {l pre post:List AE} {p:AE} (e:l=pre++p::post) (hl:l.length≤400) {x y:Int} {st:List Ar} {E:List AR} (hk:0≤DR p.f0∧(DR p.f0).toNat≤st.length) (hs:st.length≤10000) (hz:E.length≤10000) (f:Nat):
 Ch 20000 l (f+1) ((2*pre.length:Nat):Int) E x y st (pre.length:Int)=Ch 20000 l f ((2*(pre.length+1):Nat):Int) (E++NE (2*pre.length) p st) x y (st.take (st.length - (DR p.f0).toNat)++[Ar.mk ((2*pre.length:Nat):Int) ((2*pre.length+1:Nat):Int)]) ((pre.length+1:Nat):Int):=by
 have hlt:pre.length<l.length:=by rw[e];simp
 have hg:AC l (pre.length:Int)=p:=by rw[e];exact Ey pre p post
 rw[Ch.eq_2,if_pos (by omega),if_pos ⟨by omega,by omega⟩,hg];show (Si 20000 (Fx (2*pre.length) E x y) p st).bind _=_;rw[RQ (by omega) hk hs hz,Option.bind_some,CH (by omega) (by omega)];rfl
theorem Rk {l pre post:List AE} {p:AE} (e:l=pre++p::post) (hl:l.length≤400) {n:Nat} (hn:n≤8000) (hk:0≤DR p.f0∧(DR p.f0).toNat≤n) (hv:p.f0=1↔p.f1≠VZ) (f:Nat):
 CC 20000 l (f+1) (n:Int) (pre.length:Int)=CC 20000 l f ((n+1 - (DR p.f0).toNat:Nat):Int) ((pre.length+1:Nat):Int):=by
 have hlt:pre.length<l.length:=by rw[e];simp
 have hg:AC l (pre.length:Int)=p:=by rw[e];exact Ey pre p post
 have hr:=QN p.f0;have e0:Sp 20000 p.f1=some (decide (p.f1=VZ)):=rfl;have e1:(decide (p.f0=1)==decide (p.f1=VZ))=false:=by
  by_cases h:p.f0=1
  ·rw[decide_eq_true h,decide_eq_false (hv.1 h)];rfl
  ·rw[decide_eq_false h,decide_eq_true (Classical.not_not.1 fun k=>h (hv.2 k))];rfl
 rw[CC.eq_2,if_pos (by omega),if_pos ⟨by omega,by omega⟩,hg,H6,Option.bind_some,if_neg (by omega),if_neg (by omega),e0,Option.bind_some,e1,Option.bind_some,if_neg (by simp),CH (x:=(1:Int) -DR p.f0) (by omega) (by omega),CH (by omega) (by omega),CH (by omega) (by omega)];have e2:(n:Int)+(1-DR p.f0)=((n+1 - (DR p.f0).toNat:Nat):Int):=by omega
 rw[e2];rfl
theorem SH {k:Int} (h:4≤k) (h2:k≤6):DR k=1:=by unfold DR;rw[if_neg (by omega),if_pos (by omega)]
theorem VE (s0:List Ar) (A:Ar):AC (s0++[A]) (((s0++[A]).length-1:Nat):Int)=A:=by
 rw[Ai _ _ (by simp)];simp
theorem WC (s0:List Ar) (A B:Ar):AC (s0++[A]++[B]) (((s0++[A]++[B]).length-2:Nat):Int)=A:=by
 rw[Ai _ _ (by simp)];simp
def TL (l:List AE) (x y:Int) (t:Rx):Prop:=∀ (pre post:List AE),l=pre++AP t++post→
 (∀ (f n:Nat),n≤pre.length→CC 20000 l (f+(AP t).length) (n:Int) (pre.length:Int)=CC 20000 l f ((n+1:Nat):Int) ((pre.length+(AP t).length:Nat):Int))∧
 (∀ (f:Nat) (E:List AR) (st:List Ar),st.length≤pre.length→E.length≤4*pre.length→
   Ch 20000 l (f+(AP t).length) ((2*pre.length:Nat):Int) E x y st (pre.length:Int)=Ch 20000 l f ((2*(pre.length+(AP t).length):Nat):Int) (E++gr t (2*pre.length)) x y (st++[gP t (2*pre.length)]) ((pre.length+(AP t).length:Nat):Int))
theorem TL.leaf {l:List AE} (hl:l.length≤400) {x y:Int} {t:Rx} {p:AE} (hs:AP t=[p]) (hk:DR p.f0=0) (hv:p.f0=1↔p.f1≠VZ) (hg:∀ q s0,gr t q=NE q p s0):TL l x y t:=by
 intro pre post e;have e':l=pre++p::post:=by rw[e,hs];simp
 have hp:pre.length<l.length:=by rw[e'];simp
 refine⟨fun f n hn=>?_,fun f E st h1 hE=>?_⟩
 ·have:=Rk e' hl (n:=n) (by omega) (by rw[hk];simp) hv f;rw[hs];rw[hk]at this;exact this
 ·have:=VV (x:=x) (y:=y) e' hl (st:=st) (E:=E) (by rw[hk];simp) (by omega) (by omega) f;rw[hs];rw[hk,show st.length - (0:Int).toNat=st.length from rfl,List.take_length, ←hg]at this;have g:gP t (2*pre.length)=Ar.mk ((2*pre.length:Nat):Int) ((2*pre.length+1:Nat):Int):=by
   unfold gP gI gO Mv;rw[hs];rfl
  rw[g];exact this
theorem TL.two {l:List AE} (hl:l.length≤400) {x y:Int} {a b t:Rx} {k:Int} (hk:DR k=2) (hk1:k≠1) (hs:AP t=AP a++AP b++[AE.mk k VZ]) (hg:∀ q s0,gr t q=gr a q++gr b (qb a q)++NE (Mv t q) (AE.mk k VZ) (s0++[gP a q]++[gP b (qb a q)])) (ha:TL l x y a) (hb:TL l x y b):TL l x y t:=by
 intro pre post e;have ea:l=pre++AP a++(AP b++[AE.mk k VZ]++post):=by rw[e,hs];simp
 have eb:l=(pre++AP a)++AP b++([AE.mk k VZ]++post):=by rw[e,hs];simp
 have ep:l=(pre++AP a++AP b)++AE.mk k VZ::post:=by rw[e,hs];simp
 have la:(pre++AP a).length=pre.length+(AP a).length:=by simp
 have lb:(pre++AP a++AP b).length=pre.length+(AP a).length+(AP b).length:=by simp;omega
 have lt:(AP t).length=(AP a).length+(AP b).length+1:=by rw[hs];simp;omega
 have hp:(pre++AP a++AP b).length<l.length:=by rw[ep];simp
 have pa:=BU a;have pb:=BU b;refine⟨fun f n hn=>?_,fun f E st h1 hE=>?_⟩
 ·have q1:=(ha pre _ ea).1 (f+1+(AP b).length) n hn;have q2:=(hb (pre++AP a) _ eb).1 (f+1) (n+1) (by omega);have q3:=Rk ep hl (n:=n+1+1) (by omega) (by show 0≤DR k∧(DR k).toNat≤_;rw[hk];exact⟨by decide,by show 2≤n+1+1;omega⟩) (by simp[hk1]) f;rw[la]at q2;rw[lb]at q3;rw[lt,show f+((AP a).length+(AP b).length+1)=f+1+(AP b).length+(AP a).length by omega,q1,q2,q3];show CC 20000 l f ((n+1+1+1 - (DR k).toNat:Nat):Int) _=_;rw[hk,show n+1+1+1 - (2:Int).toNat=n+1 from by show n+1+1+1-2=n+1;omega,show pre.length+((AP a).length+(AP b).length+1)=pre.length+(AP a).length+(AP b).length+1 by omega]
 ·have ga:=EH a (2*pre.length);have gb:=EH b (qb a (2*pre.length));have q1:=(ha pre _ ea).2 (f+1+(AP b).length) E st h1 hE;have q2:=(hb (pre++AP a) _ eb).2 (f+1) (E++gr a (2*pre.length)) (st++[gP a (2*pre.length)]) (by simp;omega) (by simp;omega);rw[la,show 2*(pre.length+(AP a).length)=qb a (2*pre.length)by unfold qb;omega]at q2;have q3:=VV (x:=x) (y:=y) ep hl (st:=st++[gP a (2*pre.length)]++[gP b (qb a (2*pre.length))]) (E:=E++gr a (2*pre.length)++gr b (qb a (2*pre.length))) (by show 0≤DR k∧(DR k).toNat≤_;rw[hk];exact⟨by decide,by simp⟩) (by simp;omega) (by simp;omega) f;rw[lb]at q3;have gq:Mv t (2*pre.length)=2*(pre.length+(AP a).length+(AP b).length):=by unfold Mv;rw[lt];omega
  rw[lt,show f+((AP a).length+(AP b).length+1)=f+1+(AP b).length+(AP a).length by omega,q1,show 2*(pre.length+(AP a).length)=qb a (2*pre.length)by unfold qb;omega,q2,q3,hg _ st,gq];have tk:(st++[gP a (2*pre.length)]++[gP b (qb a (2*pre.length))]).take ((st++[gP a (2*pre.length)]++[gP b (qb a (2*pre.length))]).length - (DR (AE.mk k VZ).f0).toNat)=st:=by
   show (st++[gP a (2*pre.length)]++[gP b (qb a (2*pre.length))]).take ((st++[gP a (2*pre.length)]++[gP b (qb a (2*pre.length))]).length - (DR k).toNat)=st;rw[hk,List.append_assoc,show (st++([gP a (2*pre.length)]++[gP b (qb a (2*pre.length))])).length - (2:Int).toNat=st.length by simp];simp
  have g:gP t (2*pre.length)=Ar.mk ((2*(pre.length+(AP a).length+(AP b).length):Nat):Int) ((2*(pre.length+(AP a).length+(AP b).length)+1:Nat):Int):=by
   unfold gP gI gO;rw[gq]
  rw[tk,g,show pre.length+((AP a).length+(AP b).length+1)=pre.length+(AP a).length+(AP b).length+1 by omega];simp only[List.append_assoc]
theorem TL.un {l:List AE} (hl:l.length≤400) {x y:Int} {a:Rx} {k:Int} (h4:4≤k) (h6:k≤6) (ha:TL l x y a):TL l x y (.un k a):=by
 intro pre post e;have hk:=SH h4 h6;have ea:l=pre++AP a++([AE.mk k VZ]++post):=by rw[e];simp[AP]
 have ep:l=(pre++AP a)++AE.mk k VZ::post:=by rw[e];simp[AP]
 have la:(pre++AP a).length=pre.length+(AP a).length:=by simp
 have lt:(AP (.un k a)).length=(AP a).length+1:=by simp[AP]
 have hp:(pre++AP a).length<l.length:=by rw[ep];simp
 have pa:=BU a;refine⟨fun f n hn=>?_,fun f E st h1 hE=>?_⟩
 ·have q1:=(ha pre _ ea).1 (f+1) n hn;have q3:=Rk ep hl (n:=n+1) (by omega) (by show 0≤DR k∧(DR k).toNat≤_;rw[hk];exact⟨by decide,by show 1≤n+1;omega⟩) (by simp;omega) f;rw[la]at q3;rw[lt,show f+((AP a).length+1)=f+1+(AP a).length by omega,q1,q3];show CC 20000 l f ((n+1+1 - (DR k).toNat:Nat):Int) _=_;rw[hk];rfl
 ·have ga:=EH a (2*pre.length);have q1:=(ha pre _ ea).2 (f+1) E st h1 hE;have q3:=VV (x:=x) (y:=y) ep hl (st:=st++[gP a (2*pre.length)]) (E:=E++gr a (2*pre.length)) (by show 0≤DR k∧(DR k).toNat≤_;rw[hk];exact⟨by decide,by simp⟩) (by simp;omega) (by simp;omega) f;rw[la]at q3;have gq:Mv (.un k a) (2*pre.length)=2*(pre.length+(AP a).length):=by unfold Mv;rw[lt];omega
  have tk:(st++[gP a (2*pre.length)]).take ((st++[gP a (2*pre.length)]).length - (DR (AE.mk k VZ).f0).toNat)=st:=by
   show (st++[gP a (2*pre.length)]).take ((st++[gP a (2*pre.length)]).length - (DR k).toNat)=st;rw[hk,show (st++[gP a (2*pre.length)]).length - (1:Int).toNat=st.length by simp];simp
  have g:gP (.un k a) (2*pre.length)=Ar.mk ((2*(pre.length+(AP a).length):Nat):Int) ((2*(pre.length+(AP a).length)+1:Nat):Int):=by
   unfold gP gI gO;rw[gq]
  have ne:NE (2*(pre.length+(AP a).length)) (AE.mk k VZ) (st++[gP a (2*pre.length)])=([fe (gI (.un k a) (2*pre.length)) (gI a (2*pre.length)),fe (gO a (2*pre.length)) (gO (.un k a) (2*pre.length))]++(if k≠6 then [fe (gO a (2*pre.length)) (gI a (2*pre.length))]else [])++(if k≠5 then [fe (gI (.un k a) (2*pre.length)) (gO (.un k a) (2*pre.length))]else [])):=by
   unfold NE;rw[VE];show (if k=0 then _ else if k=1 then _ else if k=2 then _ else if k=3 then _ else _)=_;rw[if_neg (by omega),if_neg (by omega),if_neg (by omega),if_neg (by omega)];unfold gI gO;rw[gq];rfl
  rw[lt,show f+((AP a).length+1)=f+1+(AP a).length by omega,q1,q3,tk,g,ne];simp only[gr,List.append_assoc];rfl
theorem F4 {l:List AE} (hl:l.length≤400) (x y:Int):∀ t:Rx,Fv t→TL l x y t
 | .non,_=>TL.leaf hl rfl rfl (by simp) fun q s0=>rfl
 | .one v,h=>TL.leaf hl rfl rfl ⟨fun _=>h.2,fun _=>rfl⟩ fun q s0=>rfl
 | .cat a b,h=>TL.two hl (k:=2) rfl (by decide) rfl (fun q s0=>by
    unfold NE;rw[VE,WC];rfl) (F4 hl x y a h.1) (F4 hl x y b h.2)
 | .alt a b,h=>TL.two hl (k:=3) rfl (by decide) rfl (fun q s0=>by
    unfold NE;rw[VE,WC];rfl) (F4 hl x y a h.1) (F4 hl x y b h.2)
 | .un k a,h=>TL.un hl h.1 h.2.1 (F4 hl x y a h.2.2)
def gN (t:Rx):Ay:=Ay.mk ((2*(AP t).length:Nat):Int) (gr t 0) (gI t 0) (gO t 0)
theorem Pc {t:Rx} (ht:Fv t) (hz:(AP t).length≤400):UD 20000 (AP t)=some (gN t,0):=by
 obtain⟨h1,h2⟩:=F4 hz 0 0 t ht [] [] (by simp);have c:Ti 20000 (AP t)=some 0:=by
  unfold Ti;have:=h1 (20000 - (AP t).length) 0 (by simp);rw[show 20000 - (AP t).length+(AP t).length=20000 by omega]at this;rw[if_neg (by omega)];refine this.trans ?_;rw[show 20000 - (AP t).length=19999 - (AP t).length+1 by omega,CC.eq_2,if_neg (by simp)];rfl
 unfold UD;rw[c,Option.bind_some,if_neg (by simp)];have:=h2 (20000 - (AP t).length) [] [] (by simp) (by simp);rw[show 20000 - (AP t).length+(AP t).length=20000 by omega]at this;refine this.trans ?_;rw[show 20000 - (AP t).length=19999 - (AP t).length+1 by omega,Ch.eq_2,if_neg (by simp)];unfold gN Ie;simp[gP,AC]
theorem IG (t:Rx) (q:Nat):(q:Int)≤gI t q∧gO t q=gI t q+1∧gI t q+2=(qb t q:Int)∧q+2≤qb t q:=by have:=BU t;unfold gO gI Mv qb;omega
theorem NW (a b:Rx) (q:Nat):gI (.cat a b) q=(qb b (qb a q):Int):=by unfold gI Mv qb;simp[AP];omega
theorem OU (a b:Rx) (q:Nat):gI (.alt a b) q=(qb b (qb a q):Int):=by unfold gI Mv qb;simp[AP];omega
theorem Q2 (k:Int) (a:Rx) (q:Nat):gI (.un k a) q=(qb a q:Int):=by unfold gI Mv qb;simp[AP]
def ER (q r:Nat) (e:AR):Prop:=(q:Int)≤e.f0∧e.f0<(r:Int)∧(q:Int)≤e.f1∧e.f1<(r:Int)∧U e.f2
theorem ER.fe {q r:Nat} {a b:Int} (h1:(q:Int)≤a∧a<(r:Int)) (h2:(q:Int)≤b∧b<(r:Int)):ER q r (Go.Avl.TC.fe a b):=⟨h1.1,h1.2,h2.1,h2.2,FK⟩
theorem ER.up {q r q' r':Nat} {e:AR} (h:ER q r e) (h1:q'≤q) (h2:r≤r'):ER q' r' e:=by
 obtain⟨a,b,c,d,u⟩:=h;exact⟨by omega,by omega,by omega,by omega,u⟩
theorem OJ {k:Int} {a:Rx} {q:Nat} {e:AR} (h:e∈gr (.un k a) q):e∈gr a q∨e=fe (gI (.un k a) q) (gI a q)∨e=fe (gO a q) (gO (.un k a) q)∨(k≠6∧e=fe (gO a q) (gI a q))∨(k≠5∧e=fe (gI (.un k a) q) (gO (.un k a) q)):=by
 simp only[gr,List.mem_append,List.mem_cons,List.not_mem_nil,or_false]at h;rcases h with h| ((h|h)|h)|h
 ·exact .inl h
 ·exact .inr (.inl h)
 ·exact .inr (.inr (.inl h))
 ·by_cases c:k≠6
  ·rw[if_pos c]at h;exact .inr (.inr (.inr (.inl ⟨c,List.mem_singleton.1 h⟩)))
  ·rw[if_neg c]at h;cases h
 ·by_cases c:k≠5
  ·rw[if_pos c]at h;exact .inr (.inr (.inr (.inr ⟨c,List.mem_singleton.1 h⟩)))
  ·rw[if_neg c]at h;cases h
theorem Ck:∀ (t:Rx) (q:Nat),Fv t→∀ e∈gr t q,ER q (qb t q) e
 | .non,q,_,e,h=>by
   have g:=IG .non q;rw[show e=_ from List.mem_singleton.1 h];exact .fe ⟨by omega,by omega⟩ ⟨by omega,by omega⟩
 | .one s,q,ht,e,h=>by
   have g:=IG (.one s) q;rw[show e=_ from List.mem_singleton.1 h];exact⟨by show _≤gI _ _;omega,by show gI _ _<_;omega,by show _≤gO _ _;omega,by show gO _ _<_;omega,ht.1⟩
 | .cat a b,q,ht,e,h=>by
   have g:=IG (.cat a b) q;have g1:=NW a b q;have ga:=IG a q;have gb:=IG b (qb a q);simp only[gr,List.mem_append,List.mem_cons,List.not_mem_nil,or_false]at h;rcases h with(h|h)|h|h|h
   ·exact(Ck a q ht.1 e h).up (Nat.le_refl _) (by omega)
   ·exact(Ck b _ ht.2 e h).up (by omega) (by omega)
   all_goals rw[h];exact .fe ⟨by omega,by omega⟩ ⟨by omega,by omega⟩
 | .alt a b,q,ht,e,h=>by
   have g:=IG (.alt a b) q;have g1:=OU a b q;have ga:=IG a q;have gb:=IG b (qb a q);simp only[gr,List.mem_append,List.mem_cons,List.not_mem_nil,or_false]at h;rcases h with(h|h)|h|h|h|h
   ·exact(Ck a q ht.1 e h).up (Nat.le_refl _) (by omega)
   ·exact(Ck b _ ht.2 e h).up (by omega) (by omega)
   all_goals rw[h];exact .fe ⟨by omega,by omega⟩ ⟨by omega,by omega⟩
 | .un k a,q,ht,e,h=>by
   have g:=IG (.un k a) q;have g1:=Q2 k a q;have ga:=IG a q;rcases OJ h with h|h|h|⟨_,h⟩|⟨_,h⟩
   ·exact(Ck a q ht.2.2 e h).up (Nat.le_refl _) (by omega)
   all_goals rw[h];exact .fe ⟨by omega,by omega⟩ ⟨by omega,by omega⟩
inductive PW (l:List AR):Int→List Nat→Int→Prop
 | nil (p:Int):PW l p [] p
 | eps {e:AR} {w:List Nat} {r:Int}:e∈l→e.f3=true→PW l e.f1 w r→PW l e.f0 w r
 | byte {e:AR} {b:Nat} {w:List Nat} {r:Int}:e∈l→e.f3=false→tb e.f2 b=true→PW l e.f1 w r→PW l e.f0 (b::w) r
theorem PW.fe {l:List AR} {a b:Int} {w:List Nat} {r:Int} (h:Go.Avl.TC.fe a b∈l) (k:PW l b w r):PW l a w r:=PW.eps (e:=Go.Avl.TC.fe a b) h rfl k
theorem PW.app {l:List AR} {p q r:Int} {v w:List Nat} (h:PW l p v q) (k:PW l q w r):PW l p (v++w) r:=by
 induction h with
 | nil=>exact k
 | eps he hf _ ih=>exact .eps he hf (ih k)
 | byte he hf hb _ ih=>exact .byte he hf hb (ih k)
theorem IO:∀ (t:Rx) (q:Nat) (L:List AR),Fv t→(∀ e∈gr t q,e∈L)→∀ w,Lx t w→PW L (gI t q) w (gO t q)
 | .non,q,L,_,h,w,k=>by
   rw[show w=[]from k];exact .fe (h _ (List.mem_singleton.2 rfl)) (.nil _)
 | .one s,q,L,_,h,w,k=>by
   obtain⟨b,rfl,hb⟩:=k;exact PW.byte (e:=AR.mk (gI (.one s) q) (gO (.one s) q) s false) (h _ (List.mem_singleton.2 rfl)) rfl hb (.nil _)
 | .cat a b,q,L,ht,h,w,k=>by
   obtain⟨x,y,rfl,hx,hy⟩:=k;have h1:=IO a q L ht.1 (fun e he=>h e (by simp[gr,he])) x hx;have h2:=IO b (qb a q) L ht.2 (fun e he=>h e (by simp[gr,he])) y hy;have h3:=h2.app (.fe (h (fe (gO b (qb a q)) (gO (.cat a b) q)) (by simp[gr])) (.nil _));rw[List.append_nil]at h3;exact .fe (h (fe (gI (.cat a b) q) (gI a q)) (by simp[gr])) (h1.app (.fe (h (fe (gO a q) (gI b (qb a q))) (by simp[gr])) h3))
 | .alt a b,q,L,ht,h,w,k=>by
   rcases k with k|k
   ·have h3:=(IO a q L ht.1 (fun e he=>h e (by simp[gr,he])) w k).app (.fe (h (fe (gO a q) (gO (.alt a b) q)) (by simp[gr])) (.nil _));rw[List.append_nil]at h3;exact .fe (h (fe (gI (.alt a b) q) (gI a q)) (by simp[gr])) h3
   ·have h3:=(IO b (qb a q) L ht.2 (fun e he=>h e (by simp[gr,he])) w k).app (.fe (h (fe (gO b (qb a q)) (gO (.alt a b) q)) (by simp[gr])) (.nil _));rw[List.append_nil]at h3;exact .fe (h (fe (gI (.alt a b) q) (gI b (qb a q))) (by simp[gr])) h3
 | .un k a,q,L,ht,h,w,kw=>by
   have ih:=IO a q L ht.2.2 (fun e he=>h e (by simp[gr,he]));have e1:=h (fe (gI (.un k a) q) (gI a q)) (by simp[gr]);have e2:=h (fe (gO a q) (gO (.un k a) q)) (by simp[gr]);have e4:k≠5→fe (gI (.un k a) q) (gO (.un k a) q)∈L:=fun c=>h _ (by simp[gr,c]);have one:∀ x,Lx a x→PW L (gI (.un k a) q) x (gO (.un k a) q):=fun x hx=>by
    have h3:=(ih x hx).app (.fe e2 (.nil _));rw[List.append_nil]at h3;exact .fe e1 h3
   have loop:k≠6→∀ y,SL (Lx a) y→PW L (gO a q) y (gO (.un k a) q):=fun c y hy=>by
    have e3:=h (fe (gO a q) (gI a q)) (by simp[gr,c])
    induction hy with
    | nil=>exact .fe e2 (.nil _)
    | step x y _ hx _ ihy=>exact .fe e3 ((ih x hx).app ihy)
   have plus:k≠6→∀ x y,Lx a x→SL (Lx a) y→PW L (gI (.un k a) q) (x++y) (gO (.un k a) q):=fun c x y hx hy=>.fe e1 ((ih x hx).app (loop c y hy));unfold Lx at kw;by_cases c6:k=6
   ·rw[if_pos c6]at kw;rcases kw with rfl|kw
    ·exact .fe (e4 (by omega)) (.nil _)
    ·exact one w kw
   ·rw[if_neg c6]at kw;by_cases c4:k=4
    ·rw[if_pos c4]at kw
     cases kw with
     | nil=>exact .fe (e4 (by omega)) (.nil _)
     | step x y _ hx hy=>exact plus c6 x y hx hy
    ·rw[if_neg c4]at kw;obtain⟨x,y,rfl,hx,hy⟩:=kw;exact plus c6 x y hx hy
def LB:Rx→Nat→(List Nat→Prop)→Int→List Nat→Prop
 | .non,q,K,p=>K
 | .one s,q,K,p=>if p=gO (.one s) q then K else fun w=>∃ b v,w=b::v∧tb s b=true∧K v
 | .cat a b,q,K,p=>if p<(qb a q:Int)then LB a q (LB b (qb a q) K (gI b (qb a q))) p else if p<gI (.cat a b) q then LB b (qb a q) K p else if p=gI (.cat a b) q then LB a q (LB b (qb a q) K (gI b (qb a q))) (gI a q)else K
 | .alt a b,q,K,p=>if p<(qb a q:Int)then LB a q K p else if p<gI (.alt a b) q then LB b (qb a q) K p else if p=gI (.alt a b) q then(fun w=>LB a q K (gI a q) w∨LB b (qb a q) K (gI b (qb a q)) w)else K
 | .un k a,q,K,p=>let K':List Nat→Prop:=if k=6 then K else fun w=>∃ x y,w=x++y∧SL (Lx a) x∧K y
   if p<gI (.un k a) q then LB a q K' p else if p=gI (.un k a) q then(fun w=>LB a q K' (gI a q) w∨(k≠5∧K w))else K
theorem JE (a b:Rx) (q:Nat) (K:List Nat→Prop) (p:Int):LB (.cat a b) q K p=if p<(qb a q:Int)then LB a q (LB b (qb a q) K (gI b (qb a q))) p else if p<gI (.cat a b) q then LB b (qb a q) K p else if p=gI (.cat a b) q then LB a q (LB b (qb a q) K (gI b (qb a q))) (gI a q)else K:=rfl
theorem Ij (a b:Rx) (q:Nat) (K:List Nat→Prop) (p:Int):LB (.alt a b) q K p=if p<(qb a q:Int)then LB a q K p else if p<gI (.alt a b) q then LB b (qb a q) K p else if p=gI (.alt a b) q then(fun w=>LB a q K (gI a q) w∨LB b (qb a q) K (gI b (qb a q)) w)else K:=rfl
theorem Nm (k:Int) (a:Rx) (q:Nat) (K:List Nat→Prop) (p:Int):LB (.un k a) q K p=if p<gI (.un k a) q then LB a q (if k=6 then K else fun w=>∃ x y,w=x++y∧SL (Lx a) x∧K y) p else if p=gI (.un k a) q then(fun w=>LB a q (if k=6 then K else fun w=>∃ x y,w=x++y∧SL (Lx a) x∧K y) (gI a q) w∨(k≠5∧K w))else K:=rfl
def Qg (S:Int→List Nat→Prop) (e:AR):Prop:=(e.f3=true→∀ w,S e.f1 w→S e.f0 w)∧(e.f3=false→∀ b w,tb e.f2 b=true→S e.f1 w→S e.f0 (b::w))
theorem Qg.of {S S':Int→List Nat→Prop} {e:AR} (h:Qg S e) (h0:S' e.f0=S e.f0) (h1:S' e.f1=S e.f1):Qg S' e:=by
 unfold Qg;rw[h0,h1];exact h
theorem Qg.fe {S:Int→List Nat→Prop} {a b:Int} (h:∀ w,S b w→S a w):Qg S (Go.Avl.TC.fe a b):=⟨fun _=>h,fun h=>by cases h⟩
theorem PW.lab {l:List AR} {S:Int→List Nat→Prop} (hs:∀ e∈l,Qg S e) {p r:Int} {w:List Nat} (h:PW l p w r) (k:S r []):S p w:=by
 induction h with
 | nil=>exact k
 | eps he hf _ ih=>exact(hs _ he).1 hf _ (ih k)
 | byte he hf hb _ ih=>exact(hs _ he).2 hf _ _ hb (ih k)
theorem IK:∀ (t:Rx) (q:Nat) (K:List Nat→Prop),Fv t→(∀ e∈gr t q,Qg (LB t q K) e)∧LB t q K (gO t q)=K∧(∀ w,LB t q K (gI t q) w→∃ x y,w=x++y∧Lx t x∧K y)
 | .non,q,K,_=>⟨fun e he=>by
    rw[show e=_ from List.mem_singleton.1 he];exact .fe fun w h=>h,rfl,fun w h=>⟨[],w,rfl,rfl,h⟩⟩
 | .one s,q,K,_=>by
   have g:=IG (.one s) q;have hI:LB (.one s) q K (gI (.one s) q)=fun w=>∃ b v,w=b::v∧tb s b=true∧K v:=by unfold LB;rw[if_neg (by omega)]
   have hO:LB (.one s) q K (gO (.one s) q)=K:=by unfold LB;rw[if_pos rfl]
   refine⟨fun e he=>?_,hO,fun w h=>?_⟩
   ·rw[show e=_ from List.mem_singleton.1 he];refine⟨fun h=>(by cases h),fun _ b w hb h=>?_⟩;show LB (.one s) q K (gI (.one s) q) (b::w);have h:LB (.one s) q K (gO (.one s) q) w:=h;rw[hO]at h;rw[hI];exact⟨b,w,rfl,hb,h⟩
   ·rw[hI]at h;obtain⟨b,v,rfl,hb,hv⟩:=h;exact⟨[b],v,rfl,⟨b,rfl,hb⟩,hv⟩
 | .cat a b,q,K,ht=>by
   have g:=IG (.cat a b) q;have g1:=NW a b q;have ga:=IG a q;have gb:=IG b (qb a q);obtain⟨b1,b2,b3⟩:=IK b (qb a q) K ht.2;generalize hK:LB b (qb a q) K (gI b (qb a q))=K1;obtain⟨a1,a2,a3⟩:=IK a q K1 ht.1;have cA:∀ p,p<(qb a q:Int)→LB (.cat a b) q K p=LB a q K1 p:=fun p h=>by rw[JE,if_pos h,hK]
   have cB:∀ p,(qb a q:Int)≤p→p<gI (.cat a b) q→LB (.cat a b) q K p=LB b (qb a q) K p:=fun p h k=>by rw[JE,if_neg (by omega),if_pos k]
   have cI:LB (.cat a b) q K (gI (.cat a b) q)=LB a q K1 (gI a q):=by rw[JE,if_neg (by omega),if_neg (by omega),if_pos rfl,hK]
   have cO:LB (.cat a b) q K (gO (.cat a b) q)=K:=by rw[JE,if_neg (by omega),if_neg (by omega),if_neg (by omega)]
   refine⟨fun e he=>?_,cO,fun w h=>?_⟩
   ·simp only[gr,List.mem_append,List.mem_cons,List.not_mem_nil,or_false]at he;rcases he with(he|he)|he|he|he
    ·have r:=Ck a q ht.1 e he;exact(a1 e he).of (cA _ r.2.1) (cA _ r.2.2.2.1)
    ·have r:=Ck b _ ht.2 e he;exact(b1 e he).of (cB _ r.1 (by have:=r.2.1;omega)) (cB _ r.2.2.1 (by have:=r.2.2.2.1;omega))
    ·rw[he];refine .fe fun w h=>?_;rw[cI];rw[cA _ (by omega)]at h;exact h
    ·rw[he];refine .fe fun w h=>?_;rw[cA _ (by omega),a2, ←hK];rw[cB _ (by omega) (by omega)]at h;exact h
    ·rw[he];refine .fe fun w h=>?_;rw[cB _ (by omega) (by omega),b2];rw[cO]at h;exact h
   ·rw[cI]at h;obtain⟨x,y,rfl,hx,hy⟩:=a3 w h;rw[←hK]at hy;obtain⟨y1,y2,rfl,h1,h2⟩:=b3 y hy;exact⟨x++y1,y2,by simp,⟨x,y1,rfl,hx,h1⟩,h2⟩
 | .alt a b,q,K,ht=>by
   have g:=IG (.alt a b) q;have g1:=OU a b q;have ga:=IG a q;have gb:=IG b (qb a q);obtain⟨b1,b2,b3⟩:=IK b (qb a q) K ht.2;obtain⟨a1,a2,a3⟩:=IK a q K ht.1;have cA:∀ p,p<(qb a q:Int)→LB (.alt a b) q K p=LB a q K p:=fun p h=>by rw[Ij,if_pos h]
   have cB:∀ p,(qb a q:Int)≤p→p<gI (.alt a b) q→LB (.alt a b) q K p=LB b (qb a q) K p:=fun p h k=>by rw[Ij,if_neg (by omega),if_pos k]
   have cI:LB (.alt a b) q K (gI (.alt a b) q)=fun w=>LB a q K (gI a q) w∨LB b (qb a q) K (gI b (qb a q)) w:=by rw[Ij,if_neg (by omega),if_neg (by omega),if_pos rfl]
   have cO:LB (.alt a b) q K (gO (.alt a b) q)=K:=by rw[Ij,if_neg (by omega),if_neg (by omega),if_neg (by omega)]
   refine⟨fun e he=>?_,cO,fun w h=>?_⟩
   ·simp only[gr,List.mem_append,List.mem_cons,List.not_mem_nil,or_false]at he;rcases he with(he|he)|he|he|he|he
    ·have r:=Ck a q ht.1 e he;exact(a1 e he).of (cA _ r.2.1) (cA _ r.2.2.2.1)
    ·have r:=Ck b _ ht.2 e he;exact(b1 e he).of (cB _ r.1 (by have:=r.2.1;omega)) (cB _ r.2.2.1 (by have:=r.2.2.2.1;omega))
    ·rw[he];refine .fe fun w h=>?_;rw[cI];rw[cA _ (by omega)]at h;exact .inl h
    ·rw[he];refine .fe fun w h=>?_;rw[cA _ (by omega),a2];rw[cO]at h;exact h
    ·rw[he];refine .fe fun w h=>?_;rw[cI];rw[cB _ (by omega) (by omega)]at h;exact .inr h
    ·rw[he];refine .fe fun w h=>?_;rw[cB _ (by omega) (by omega),b2];rw[cO]at h;exact h
   ·rw[cI]at h;rcases h with h|h
    ·obtain⟨x,y,rfl,hx,hy⟩:=a3 w h;exact⟨x,y,rfl,.inl hx,hy⟩
    ·obtain⟨x,y,rfl,hx,hy⟩:=b3 w h;exact⟨x,y,rfl,.inr hx,hy⟩
 | .un k a,q,K,ht=>by
   have g:=IG (.un k a) q;have g1:=Q2 k a q;have ga:=IG a q;have kr:=ht.1;generalize hK:(if k=6 then K else fun w=>∃ x y,w=x++y∧SL (Lx a) x∧K y:List Nat→Prop)=K1;obtain⟨a1,a2,a3⟩:=IK a q K1 ht.2.2;have up:∀ w,K w→K1 w:=fun w h=>by
    rw[←hK];split
    ·exact h
    ·exact⟨[],w,rfl,.nil,h⟩
   have cA:∀ p,p<(qb a q:Int)→LB (.un k a) q K p=LB a q K1 p:=fun p h=>by
    rw[Nm,if_pos (by omega),hK]
   have cI:LB (.un k a) q K (gI (.un k a) q)=fun w=>LB a q K1 (gI a q) w∨(k≠5∧K w):=by
    rw[Nm,if_neg (by omega),if_pos rfl,hK]
   have cO:LB (.un k a) q K (gO (.un k a) q)=K:=by
    rw[Nm,if_neg (by omega),if_neg (by omega)]
   refine⟨fun e he=>?_,cO,fun w h=>?_⟩
   ·rcases OJ he with he|he|he|⟨c,he⟩|⟨c,he⟩
    ·have r:=Ck a q ht.2.2 e he;exact(a1 e he).of (cA _ r.2.1) (cA _ r.2.2.2.1)
    ·rw[he];refine .fe fun w h=>?_;rw[cI];rw[cA _ (by omega)]at h;exact .inl h
    ·rw[he];refine .fe fun w h=>?_;rw[cA _ (by omega),a2];rw[cO]at h;exact up w h
    ·rw[he];refine .fe fun w h=>?_;rw[cA _ (by omega),a2];rw[cA _ (by omega)]at h;obtain⟨x,y,rfl,hx,hy⟩:=a3 w h;rw[←hK,if_neg c]at hy⊢
     obtain⟨u,v,rfl,hu,hv⟩:=hy;refine⟨x++u,v,by simp,?_,hv⟩;by_cases e:x=[]
     ·rw[e];exact hu
     ·exact .step x u e hx hu
    ·rw[he];refine .fe fun w h=>?_;rw[cI];rw[cO]at h;exact .inr ⟨c,h⟩
   ·rw[cI]at h;have nil:k≠5→Lx (.un k a) []:=fun c=>by
     unfold Lx;by_cases c6:k=6
     ·rw[if_pos c6];exact .inl rfl
     ·rw[if_neg c6];by_cases c4:k=4
      ·rw[if_pos c4];exact .nil
      ·have:=ht.2.1;omega
    rcases h with h|⟨c,h⟩
    ·obtain⟨x,y,rfl,hx,hy⟩:=a3 w h;rw[←hK]at hy;by_cases c6:k=6
     ·rw[if_pos c6]at hy;exact⟨x,y,rfl,by unfold Lx;rw[if_pos c6];exact .inr hx,hy⟩
     ·rw[if_neg c6]at hy;obtain⟨u,v,rfl,hu,hv⟩:=hy;refine⟨x++u,v,by simp,?_,hv⟩;unfold Lx;rw[if_neg c6];by_cases c4:k=4
      ·rw[if_pos c4];by_cases e:x=[]
       ·rw[e];exact hu
       ·exact .step x u e hx hu
      ·rw[if_neg c4];exact⟨x,u,rfl,hx,hu⟩
    ·exact⟨[],w,rfl,nil c,h⟩
theorem QQ {t:Rx} (ht:Fv t) (q:Nat) (w:List Nat):PW (gr t q) (gI t q) w (gO t q)↔Lx t w:=by
 refine⟨fun h=>?_,IO t q _ ht (fun e he=>he) w⟩;obtain⟨h1,h2,h3⟩:=IK t q (fun w=>w=[]) ht;obtain⟨x,y,rfl,hx,hy⟩:=h3 w (h.lab h1 (by rw[h2]));rw[hy,List.append_nil];exact hx
end Go.Avl.TC
