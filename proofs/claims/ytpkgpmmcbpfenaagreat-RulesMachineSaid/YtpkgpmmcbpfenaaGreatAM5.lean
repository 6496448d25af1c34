/- Parts: T8L4, T8Q1, T8EK, T8G2, T8P5, T8EC, T8Q2, T8U1, T8U2, T8PureRulesMachine. -/
import Derived.Test.YtpkgpmmcbpfenaaGreatAM4
import Derived.Test.YtpkgpmmcbpfenaaGreatAF8
import Derived.Test.YtpkgpmmcbpfenaaGreatAF9
import Derived.Test.YtpkgpmmcbpfenaaGreatAM1
import Derived.Test.YtpkgpmmcbpfenaaGreatAM3
import Derived.Test.YtpkgpmmcbpfenaaGreatAF6
import Derived.Test.YtpkgpmmcbpfenaaGreatAF1
import Derived.Test.YtpkgpmmcbpfenaaGreatAM2
import Derived.Test.YtpkgpmmcbpfenaaGreatAF4
import Derived.Test.YtpkgpmmcbpfenaaGreatAF7
import Derived.Test.YtpkgpmmcbpfenaaGreatAF2
namespace Go.Avl.T8
open Go Go.RowKit Go.Proofs Go.Avl
set_option linter.all false
set_option maxRecDepth 10000
structure KO (x e:AI) (kk:Nat→ByteArray) (v:Vector Int 256):Prop where
 m:Ro e kk
 cv:CV (QO e kk) v
 e:x=Hu (CM (QO e kk) v)
theorem KO.cdr {x e:AI} {kk:Nat→ByteArray} {v:Vector Int 256} (f:KO x e kk v):Dr (CM (QO e kk) v):=NQ (HZ f.m.dr kk) f.cv
theorem KO.dr {x e:AI} {kk:Nat→ByteArray} {v:Vector Int 256} (f:KO x e kk v):Dr x:=by rw[f.e];exact G8 f.cdr
theorem KO.sl {x e:AI} {kk:Nat→ByteArray} {v:Vector Int 256} (f:KO x e kk v):U2 x e:=by rw[f.e];exact(ct f.m f.cv).sl
theorem KO.rch {x e:AI} {kk:Nat→ByteArray} {v:Vector Int 256} (f:KO x e kk v):cY x:=by rw[f.e];exact Qk f.cdr
theorem XH {q:AI} (h:Dr q) {v:Vector Int 256} (hv:CV q v):∀ (w:List Nat) (p:Int),Bu w→ -1≤p∧p<(q.f1.length:Int)→go (CM q v) p w=go q p w
 | [],p,_,_=>rfl
 | b::w,p,hw,hp=>by
   have hb:=hw.hd;by_cases a:p= -1
   ·rw[a,EM,EM]
   ·obtain⟨i,rfl⟩:=Int.eq_ofNat_of_zero_le (show 0≤p by omega);have hr:=B2 h (q:=(i:Int)) (c:=(b:Int)) hp (by omega) (by omega);rw[go,go,Tg h hv (by omega) hb];exact XH h hv w _ hw.tl hr
theorem KO.go {x e:AI} {kk:Nat→ByteArray} {v:Vector Int 256} (f:KO x e kk v) {w:List Nat} (hw:Bu w):T8.go x 0 w=pl (OL (CM (QO e kk) v)) (bw e kk w)∧(bw e kk w= -1∨bw e kk w∈OL (CM (QO e kk) v)):=by
 have hQ:=HZ f.m.dr kk;have q1:=hQ.n1;have e1:=f.m.dr.n1;obtain⟨z1,z2⟩:=J0 f.cdr;have hg:T8.go (CM (QO e kk) v) 0 w=bw e kk w:=by
  rw[XH hQ f.cv w 0 hw (by omega)];have:=ND f.m.dr f.m.cut f.m.stb f.m.tr w 0 hw (by omega);have hz:Fu kk 0=0:=by
   have:Fu kk ((0:Nat):Int)=0:=by
    rw[Da];have:=Fl kk 0;omega
   exact this
  rw[hz]at this;exact this
 obtain⟨g1,g2⟩:=Lw f.cdr w 0 hw (.inr z1);rw[z2,hg]at g1;rw[hg]at g2;rw[f.e];exact⟨g1,g2⟩
theorem KO.pos {x e:AI} {kk:Nat→ByteArray} {v:Vector Int 256} (f:KO x e kk v) {w:List Nat} (hw:Bu w):0≤T8.go x 0 w↔0≤T8.go e 0 w:=by
 obtain⟨g1,g2⟩:=f.go hw;rw[g1, ←X7 f.m hw];rcases g2 with g|g
 ·rw[g,E7 f.cdr]
 ·obtain⟨j,j1,j2,j3⟩:=Dx g;have:=(Gm f.cdr).rng _ g;omega
theorem KO.tr {x e:AI} {kk:Nat→ByteArray} {v:Vector Int 256} (f:KO x e kk v):TR x:=by
 intro i b hi hb hp;have e1:=f.m.dr.n1;obtain⟨w,w1,w2⟩:=f.rch i hi;have hw:=w1.app (FB hb);have es:stp x (i:Int) (b:Int)=T8.go x 0 (w++[b]):=by rw[C4,w2]
 rw[es]at hp⊢
 have he:=(f.pos hw).1 hp;rcases(Q3 f.m.dr f.m.tr hw).1 he with q|⟨u,u1,u2⟩
 ·simp at q
 ·have hx:=f.dr.n1;have hr:=DM f.dr (w++[b]) 0 hw (by omega);refine(Jm f.dr hp hr.2).2 ⟨u,u1,?_⟩;rw[←f.sl _ (hw.app u1),Hn]at u2;exact u2
theorem KO.two {x e:AI} {kk:Nat→ByteArray} {v:Vector Int 256} (f:KO x e kk v) {i k:Nat} (hi:i<x.f1.length) (hk:k<x.f1.length) (hne:i≠k):∃ w,Bu w∧LN x i w≠LN x k w:=by
 obtain⟨w,w1,w2⟩:=f.rch i hi;obtain⟨u,u1,u2⟩:=f.rch k hk;have hb:bw e kk w≠bw e kk u:=fun q=>by
  have g1:=(f.go w1).1;have g2:=(f.go u1).1;rw[w2]at g1;rw[u2, ←q, ←g1]at g2;omega
 have p1:=(f.pos w1).1 (by rw[w2];omega);have p2:=(f.pos u1).1 (by rw[u2];omega);have hiff:=Xk f.m.dr f.m.cut f.m.stb f.m.tr w1 u1;have:∃ z,Bu z∧LL e 0 (w++z)≠LL e 0 (u++z):=Classical.byContradiction fun q=>hb (hiff.2 ⟨⟨fun _=>p2,fun _=>p1⟩,fun z hz=>Classical.byContradiction fun r=>q ⟨z,hz,r⟩⟩);obtain⟨z,z1,z2⟩:=this;refine⟨z,z1,?_⟩;rw[←f.sl _ (w1.app z1), ←f.sl _ (u1.app z1),Hn,Hn,w2,u2]at z2;unfold LN;rw[if_pos hi,if_pos hk];exact z2
theorem KO.out {x e:AI} {kk:Nat→ByteArray} {v:Vector Int 256} (f:KO x e kk v) {i:Nat} (hi:i<x.f1.length) (h2:1<x.f1.length):∃ w,Bu w∧LN x i w≠LN x x.f1.length w:=by
 have alive:∀ i:Nat,i<x.f1.length→0<i→∃ u,Bu u∧0≤LL x (i:Int) u:=by
  intro i hi h0;obtain⟨w,w1,w2⟩:=f.rch i hi;have p1:=(f.pos w1).1 (by rw[w2];omega);rcases(Q3 f.m.dr f.m.tr w1).1 p1 with q|⟨u,u1,u2⟩
  ·subst q;have:T8.go x 0 []=0:=rfl;rw[this]at w2;omega
  ·refine⟨u,u1,?_⟩;rw[←f.sl _ (w1.app u1),Hn,w2]at u2;exact u2
 have:∃ u,Bu u∧0≤LL x (i:Int) u:=by
  by_cases h0:0<i
  ·exact alive i hi h0
  ·have:i=0:=by omega
   subst this;obtain⟨u,u1,u2⟩:=alive 1 h2 (by omega);obtain⟨w,w1,w2⟩:=f.rch 1 h2;refine⟨w++u,w1.app u1,?_⟩;show 0≤LL x 0 (w++u);rw[Hn,w2];exact u2
 obtain⟨u,u1,u2⟩:=this;refine⟨u,u1,?_⟩;have eo:=XZ (d:=x) (i:=x.f1.length) (by omega) u;rw[eo];unfold LN;rw[if_pos hi];omega
theorem Ws {x:AI} (h:Dr x) {t:List (List Bool)} (ha:AP x t) (hall:∀ i k:Nat,i<x.f1.length→k<x.f1.length→i≠k→∃ w,Bu w∧LN x i w≠LN x k w) (hout:1<x.f1.length→∀ i,i<x.f1.length→∃ w,Bu w∧LN x i w≠LN x x.f1.length w) (rec5:Int→Option Bool) {i:Nat} (hi:i<x.f1.length):∀ (m k fuel:Nat),k+m=i→m<fuel→
 FI 20000 rec5 x t (i:Int) fuel (k:Int)=rec5 ((i+1:Nat):Int)
 | 0,k,fu+1,hk,_=>by
   have hn:=h.n2;have hl:=ha.len;have hr:=ha.row i (by omega);rw[FI.eq_2,if_neg (by omega)];unfold MJ Mg;rw[if_pos ⟨by omega,by omega⟩,if_pos ⟨by omega,by omega⟩,w6 (by omega) (by omega)];by_cases q:1<x.f1.length
   ·have:=(ha.ap i x.f1.length (by omega) (Nat.le_refl _)).2 (hout q i hi);have e:AA (AA t (i:Int)) (x.f1.length:Int)=true:=this;rw[e,if_neg (by decide),Option.bind_some,if_neg (by decide)];rfl
   ·cases hb:AA (AA t (i:Int)) (x.f1.length:Int)with
    | true=>rw[if_neg (by decide),Option.bind_some,if_neg (by decide)];rfl
    | false=>rw[if_pos (by decide),Option.bind_some,decide_eq_false (by omega),if_neg (by decide)];rfl
 | m+1,k,fu+1,hk,hf=>by
   have hn:=h.n2;have hl:=ha.len;have hr:=ha.row i (by omega);have ih:=Ws h ha hall hout rec5 hi m (k+1) fu (by omega) (by omega);have:=(ha.ap i k (by omega) (by omega)).2 (hall i k hi (by omega) (by omega));have e:AA (AA t (i:Int)) (k:Int)=true:=this;rw[FI.eq_2,if_pos (by omega),if_pos ⟨by omega,by omega⟩,if_pos ⟨by omega,by omega⟩,e,if_neg (by decide),w6 (by omega) (by omega)];exact_mod_cast ih
theorem WX {x:AI} (h:Dr x) {t:List (List Bool)} (ha:AP x t) (hall:∀ i k:Nat,i<x.f1.length→k<x.f1.length→i≠k→∃ w,Bu w∧LN x i w≠LN x k w) (hout:1<x.f1.length→∀ i,i<x.f1.length→∃ w,Bu w∧LN x i w≠LN x x.f1.length w):∀ (m i fuel:Nat),i+m=x.f1.length→m<fuel→Eb 20000 x t fuel (i:Int)=some true
 | 0,i,fu+1,hi,_=>by rw[Eb.eq_2,if_neg (by omega)];rfl
 | m+1,i,fu+1,hi,hf=>by
   have hn:=h.n2;have ih:=WX h ha hall hout m (i+1) fu (by omega) (by omega);have:=Ws h ha hall hout (Eb 20000 x t fu) (i:=i) (by omega) i 0 20000 (by omega) (by omega);rw[Eb.eq_2,if_pos (by omega)];rw[ih]at this;exact this
theorem Lz {x:AI} (h:Dr x) (hall:∀ i k:Nat,i<x.f1.length→k<x.f1.length→i≠k→∃ w,Bu w∧LN x i w≠LN x k w) (hout:1<x.f1.length→∀ i,i<x.f1.length→∃ w,Bu w∧LN x i w≠LN x x.f1.length w):Y0 20000 x=some true:=by
 obtain⟨t,t1,t2⟩:=Uj h;unfold Y0;rw[t1,Option.bind_some];exact WX h t2 hall hout x.f1.length 0 20000 (by omega) (by have:=h.n2;omega)
theorem QY {x:AI} (h:Dr x) (rec9:Int→Option Bool) {c k:Nat} (hc:c<KC x) (hk:k<KC x):∀ (m i fuel:Nat) (b:Bool),i+m=x.f1.length→m<fuel→(b=false∨∃ j,i≤j∧j<x.f1.length∧dl x j c≠dl x j k)→
 FG 20000 rec9 x (c:Int) (k:Int) fuel b (i:Int)=rec9 ((k+1:Nat):Int)
 | 0,i,fu+1,b,hi,_,hb=>by
   have hK:=IM h;have:b=false:=hb.resolve_right fun⟨j,j1,j2,_⟩=>by omega
   subst this;rw[FG.eq_2,if_neg (by omega)];unfold Lm MB;rw[if_neg (by decide),w6 (by omega) (by omega)];rfl
 | m+1,i,fu+1,b,hi,hf,hb=>by
   have hn:=h.n2;rw[FG.eq_2,if_pos (by omega),w6 (by omega) (by omega)]
   cases b with
   | false=>
     rw[if_neg (by decide),Option.bind_some];have:=QY h rec9 hc hk m (i+1) fu false (by omega) (by omega) (.inl rfl);exact_mod_cast this
   | true=>
     obtain⟨j,j1,j2,j3⟩:=hb.resolve_left (by decide);rw[if_pos rfl,Lr h (by omega) hc,Lr h (by omega) hk,Option.bind_some,Option.bind_some,Option.bind_some];by_cases e:dl x i c=dl x i k
     ·rw[decide_eq_true (by omega)]
      have:=QY h rec9 hc hk m (i+1) fu true (by omega) (by omega) (.inr ⟨j,by
       rcases Nat.lt_or_ge i j with u|u
       ·omega
       ·have:j=i:=by omega
        subst this
        exact absurd e j3,j2,j3⟩)
      exact_mod_cast this
     ·rw[decide_eq_false (by omega)];have:=QY h rec9 hc hk m (i+1) fu false (by omega) (by omega) (.inl rfl);exact_mod_cast this
theorem Wb {x:AI} (h:Dr x) (hap:∀ c k,c<KC x→k<c→∃ j,j<x.f1.length∧dl x j c≠dl x j k) (rec5:Int→Option Bool) {c:Nat} (hc:c<KC x):∀ (m k fuel:Nat),k+m=c→m<fuel→Ed 20000 rec5 x (c:Int) fuel (k:Int)=rec5 ((c+1:Nat):Int)
 | 0,k,fu+1,hk,_=>by
   have hK:=IM h;rw[Ed.eq_2,if_neg (by omega)];unfold Lg;rw[w6 (by omega) (by omega)];rfl
 | m+1,k,fu+1,hk,hf=>by
   have hn:=h.n2;obtain⟨j,j1,j2⟩:=hap c k hc (by omega);have ih:=Wb h hap rec5 hc m (k+1) fu (by omega) (by omega);have:=QY h (Ed 20000 rec5 x (c:Int) fu) hc (k:=k) (by omega) x.f1.length 0 20000 true (by omega) (by omega) (.inr ⟨j,by omega,j1,j2⟩);rw[Ed.eq_2,if_pos (by omega)];rw[ih]at this;exact this
theorem Wy {x:AI} (h:Dr x) (hap:∀ c k,c<KC x→k<c→∃ j,j<x.f1.length∧dl x j c≠dl x j k):∀ (m c fuel:Nat),c+m=KC x→m<fuel→Eh 20000 x (KC x:Int) fuel (c:Int)=some true
 | 0,c,fu+1,hc,_=>by rw[Eh.eq_2,if_neg (by omega)];rfl
 | m+1,c,fu+1,hc,hf=>by
   have hK:=IM h;have ih:=Wy h hap m (c+1) fu (by omega) (by omega);have:=Wb h hap (Eh 20000 x (KC x:Int) fu) (c:=c) (by omega) c 0 20000 (by omega) (by omega);rw[Eh.eq_2,if_pos (by omega)];rw[ih]at this;exact this
theorem Wz {x:AI} (h:Dr x) {kk:Nat→ByteArray} (hv:∀ c:Nat,c<256→AZ x.f0 (c:Int)=(ck kk c:Int)) (R:Option Bool) (hR:H3 20000 x (nc kk 256:Int)=R):∀ (m b fuel:Nat),b+m=256→m<fuel→En 20000 x fuel (nc kk b:Int) (b:Int)=R
 | 0,b,fu+1,hb,_=>by
   rw[En.eq_2,if_neg (by omega),show b=256 by omega];exact hR
 | m+1,b,fu+1,hb,hf=>by
   have hb':b<256:=by omega
   have ih:=Wz h hv R hR m (b+1) fu (by omega) (by omega);have hcl:=Fl kk b;have hnl:=Fv kk b;obtain⟨r1,r2,r3⟩:=A6 kk b;rw[En.eq_2,if_pos (by omega),if_pos ⟨by omega,by omega⟩,hv b hb',w6 (x:=(ck kk b:Int)) (by omega) (by omega)];unfold JZ;by_cases q:rc kk b=b
   ·have e:ck kk b=nc kk b:=by unfold ck;rw[q]
    have e1:nc kk (b+1)=nc kk b+1:=by rw[nc,if_pos q]
    rw[if_neg (by omega),if_pos ⟨by omega,by omega⟩,if_pos (by omega),w6 (by omega) (by omega),w6 (by omega) (by omega)];rw[e1]at ih;exact_mod_cast ih
   ·have h1:nc kk (rc kk b+1)≤nc kk b:=HE kk (by omega);rw[nc,if_pos (Fk kk b)]at h1;have h2:ck kk b+1≤nc kk b:=h1;have e1:nc kk (b+1)=nc kk b:=by rw[nc,if_neg q];rfl
    rw[if_neg (by omega),if_pos ⟨by omega,by omega⟩,if_neg (by omega),w6 (by omega) (by omega)];rw[e1]at ih;exact_mod_cast ih
theorem KO.classes {x e:AI} {kk:Nat→ByteArray} {v:Vector Int 256} (f:KO x e kk v):aq 20000 x=some true:=by
 have h:=f.dr;have hQ:=HZ f.m.dr kk;have ev:x.f0=v:=by rw[f.e];rfl
 have hv:∀ c:Nat,c<256→AZ x.f0 (c:Int)=(ck (kcol (QO e kk)) c:Int):=by rw[ev];exact f.cv
 have hK:(KC x:Int)=(nc (kcol (QO e kk)) 256:Int):=by
  rw[←EC h,ev];exact Sl f.cv
 have hap:∀ c k,c<KC x→k<c→∃ j,j<x.f1.length∧dl x j c≠dl x j k:=by
  intro c k hc hk;obtain⟨b,b1,b2,b3⟩:=HR (kk:=kcol (QO e kk)) 256 c (by omega);obtain⟨a,a1,a2,a3⟩:=HR (kk:=kcol (QO e kk)) 256 k (by omega);have hb:cls x b=c:=by unfold cls;rw[hv b b1];unfold ck;rw[b2,b3];omega
  have ha:cls x a=k:=by unfold cls;rw[hv a a1];unfold ck;rw[a2,a3];omega
  have hne:kcol (QO e kk) b≠kcol (QO e kk) a:=fun q=>by
   have:=Ig (kcol (QO e kk)) q;rw[b2,a2]at this;subst this;omega
  have:∃ w,Bu w∧bw e kk (w++[b])≠bw e kk (w++[a]):=Classical.byContradiction fun q=>hne ((f.m.kcol b1 a1).2 fun w hw=>Classical.byContradiction fun r=>q ⟨w,hw,r⟩);obtain⟨w,w1,w2⟩:=this;have x1:=h.n1;have hg:=DM h w 0 w1 (by omega);have hpos:0≤T8.go x 0 w:=by
   refine Classical.byContradiction fun q=>?_;have p:¬ 0≤T8.go e 0 w:=fun r=>q ((f.pos w1).2 r);have e1:=f.m.dr.n1;have hr:=DM f.m.dr w 0 w1 (by omega);have:T8.go e 0 w= -1:=by omega
   apply w2;unfold bw;rw[C4,C4,this,Bo,Bo]
  obtain⟨j,hj⟩:=Int.eq_ofNat_of_zero_le hpos;refine⟨j,by omega,fun q=>w2 ?_⟩;obtain⟨d1,r1,r2⟩:=Ho h (i:=j) (b:=b) (by omega) b1;obtain⟨d2,r3,r4⟩:=Ho h (i:=j) (b:=a) (by omega) a1;rw[hb]at d1;rw[ha]at d2;have es:stp x (j:Int) (b:Int)=stp x (j:Int) (a:Int):=by
   rw[d1,d2]at q;by_cases u1:0≤stp x (j:Int) (b:Int)
   ·by_cases u2:0≤stp x (j:Int) (a:Int)
    ·rw[if_pos u1,if_pos u2]at q;omega
    ·rw[if_pos u1,if_neg u2]at q;omega
   ·by_cases u2:0≤stp x (j:Int) (a:Int)
    ·rw[if_neg u1,if_pos u2]at q;omega
    ·omega
  have g1:=f.go (w1.app (FB b1));have g2:=f.go (w1.app (FB a1));rw[C4,hj]at g1 g2;rw[es,g2.1]at g1;have hinj:∀ y z:Int,(y= -1∨y∈OL (CM (QO e kk) v))→(z= -1∨z∈OL (CM (QO e kk) v))→pl (OL (CM (QO e kk) v)) y=pl (OL (CM (QO e kk) v)) z→y=z:=by
   rintro y z (rfl|hy) (rfl|hz) eq
   ·rfl
   ·rw[E7 f.cdr]at eq;obtain⟨j,j1,j2,j3⟩:=Dx hz;omega
   ·rw[E7 f.cdr]at eq;obtain⟨j,j1,j2,j3⟩:=Dx hy;omega
   ·obtain⟨j,j1,j2,j3⟩:=Dx hy;obtain⟨i,i1,i2,i3⟩:=Dx hz;have:i=j:=by omega
    rw[←j3, ←i3,this]
  exact(hinj _ _ g2.2 g1.2 g1.1).symm
 have hc7:H3 20000 x (nc (kcol (QO e kk)) 256:Int)=some true:=by
  unfold H3;rw[←hK];exact Wy h hap (KC x) 0 20000 (by omega) (by have:=IM h;omega)
 exact Wz h hv (some true) hc7 256 0 20000 (by omega) (by omega)
theorem Tl (d:AI):∀ (w:List Nat) (x:Int),Xq d x w=go d x w
 | [],x=>rfl
 | b::w,x=>Tl d w (stp d x (b:Int))
theorem Zx (s:ByteArray):Bu (W s):=fun b hb=>by
 obtain⟨x,_,rfl⟩:=List.mem_map.1 hb;exact x.toNat_lt
theorem aD (d:AI) (q:Int) (s:ByteArray):∀ i:Nat,i≤s.size→rn d q s i=go d q ((W s).take i)
 | 0,_=>by rw[List.take_zero];rfl
 | i+1,hi=>by
   have ih:=aD d q s i (by omega);have hl:=HG s;show stp d (rn d q s i) (AF s i)=_;rw[ih,List.take_succ_eq_append_getElem (show i<(W s).length by omega),C4,XB s i (by omega)]
theorem Vh {d:AI} (hb:aM d) (k:Nat) (s:Int) {c:Int} (h0:0≤c) (h1:c<256):Y3 k d s c=some (stp d s c):=by
 have hv:=hb c;unfold Y3 stp;by_cases a:s<0
 ·rw[if_pos a,Option.bind_some,if_pos rfl,if_pos (.inl a)]
 ·rw[if_neg a];by_cases b:(d.f1.length:Int)≤s
  ·rw[if_pos b,Option.bind_some,if_pos rfl,if_pos (.inr (.inl b))]
  ·rw[if_neg b,if_pos ⟨h0,h1⟩,if_pos ⟨by omega,by omega⟩,Option.bind_some,w6 (by omega) (by omega)];by_cases e:((AA d.f1 s).length:Int)≤AZ d.f0 c
   ·rw[decide_eq_true e,if_pos rfl,if_pos (.inr (.inr e))]
   ·rw[decide_eq_false e,if_neg (by decide),if_pos ⟨by omega,by omega⟩,if_pos ⟨h0,h1⟩,if_pos ⟨by omega,by omega⟩,if_neg (by omega)]
theorem Ut {d:AI} (h:Dr d) (s:ByteArray) (hs:s.size≤1000):∀ (m i fuel:Nat),i+m=s.size→m<fuel→Fa 20000 d s fuel (rn d 0 s i) (i:Int)=some (rn d 0 s s.size)
 | 0,i,fu+1,hi,_=>by
   rw[Fa.eq_2,if_neg (by omega),show i=s.size by omega];rfl
 | m+1,i,fu+1,hi,hf=>by
   have hu:=Az s (i:Int);have ih:=Ut h s hs m (i+1) fu (by omega) (by omega);rw[Fa.eq_2,if_pos (by omega),if_pos ⟨by omega,by omega⟩,w6 (by omega) (by omega),Vh h.vb _ _ hu.1 (by omega),Option.bind_some,w6 (by omega) (by omega)];exact_mod_cast ih
theorem Xo {d:AI} (h:Dr d) (s:ByteArray) (hs:s.size≤1000):Yi 20000 d 0 s=some (go d 0 (W s)):=by
 have:=Ut h s hs s.size 0 20000 (by omega) (by omega);rw[aD d 0 s s.size (Nat.le_refl _),List.take_of_length_le (by rw[HG];exact Nat.le_refl _)]at this;exact this
theorem Rb:∀ n:Fin 256,U7 20000 ((n.val:Nat):Int)=Yl 20000 ((n.val:Nat):Int):=by decide+kernel
theorem bM {n:Nat} (h:n≤100000):AG ((n:Int)+1)=((n+1:Nat):Int):=by rw[A1 (by omega) (by omega)];rfl
theorem Qp {f:Nat→Int→Option Bool} {n:Nat} {P:Nat→Prop} {c d:Option Bool} (hs:∀ j (i:Nat),i<n→(P i→f (j+1) (i:Int)=f j ((i+1:Nat):Int))∧(¬ P i→f (j+1) (i:Int)=d)) (he:∀ j,f (j+1) (n:Int)=c):
 ∀ (m i fuel:Nat),i+m=n→m<fuel→((∀ q,i≤q→q<n→P q)→f fuel (i:Int)=c)∧((¬ ∀ q,i≤q→q<n→P q)→f fuel (i:Int)=d)
 | 0,i,fu+1,hi,_=>by
   obtain rfl:i=n:=by omega
   exact⟨fun _=>he fu,fun h=>absurd (fun q h1 h2=>by omega) h⟩
 | m+1,i,fu+1,hi,hf=>by
   obtain⟨ih1,ih2⟩:=Qp hs he m (i+1) fu (by omega) (by omega);obtain⟨s1,s2⟩:=hs fu i (by omega);refine⟨fun h=>?_,fun h=>?_⟩
   ·rw[s1 (h i (Nat.le_refl _) (by omega))];exact ih1 fun q h1 h2=>h q (by omega) h2
   ·by_cases p:P i
    ·rw[s1 p];refine ih2 fun k=>h fun q h1 h2=>?_;by_cases e:q=i
     ·rw[e];exact p
     ·exact k q (by omega) h2
    ·exact s2 p
theorem P6 {α:Type} [Inhabited α] (l:List α) {i:Nat} (h:i<l.length):AA l (i:Int)∈l:=by rw[Ae l i h];exact List.getElem_mem h
def GX (r:CN):Prop:=r.f2.size≤40∧r.f0.size≤100
theorem Vo (l:List CN):∃ b,Xx 20000 l=some b∧(b=true→l.length≤20∧∀ r∈l,GX r):=by
 by_cases hl:(20:Int)<(l.length:Int)
 ·exact⟨false,by unfold Xx;rw[if_pos hl],fun h=>by cases h⟩
 ·have e:Xx 20000 l=Ef 20000 l 20000 ((0:Nat):Int):=by unfold Xx;rw[if_neg hl];rfl
  obtain⟨h1,h2⟩:=Qp (f:=Ef 20000 l) (n:=l.length) (P:=fun q=>GX (AA l (q:Int))) (c:=some true) (d:=some false)
   (fun j i hi=>by
     have g:0≤(i:Int)∧(i:Int)<(l.length:Int):=⟨by omega,by omega⟩;rw[Ef.eq_2,if_pos g.2,if_pos g,bM (by omega)];unfold GX;by_cases c:(40:Int)<(((AA l (i:Int)).f2).size:Int)
     ·rw[if_pos c];exact⟨fun p=>by omega,fun _=>rfl⟩
     ·rw[if_neg c,if_pos g];by_cases c2:(100:Int)<(((AA l (i:Int)).f0).size:Int)
      ·rw[decide_eq_true c2];exact⟨fun p=>by omega,fun _=>rfl⟩
      ·rw[decide_eq_false c2]
       exact⟨fun _=>rfl,fun p=>absurd ⟨by omega,by omega⟩ p⟩)
   (fun j=>by rw[Ef.eq_2,if_neg (by omega)];rfl) l.length 0 20000 (by omega) (by omega)
  rw[e];by_cases q:∀ q:Nat,0≤q→q<l.length→GX (AA l (q:Int))
  ·refine⟨true,h1 q,fun _=>⟨by omega,fun r hr=>?_⟩⟩;obtain⟨i,hi,rfl⟩:=List.getElem_of_mem hr;have:=q i (by omega) hi;rwa [Ae l i hi]at this
  ·exact⟨false,h2 q,fun h=>by cases h⟩
theorem ay {α β:Type} {o:Option α} {f:α→Option β} (h:∃ b,o=some b) (k:∀ b,∃ y,f b=some y):∃ y,o.bind f=some y:=by
 obtain⟨b,hb⟩:=h;obtain⟨y,hy⟩:=k b;exact⟨y,by rw[hb,Option.bind_some];exact hy⟩
theorem it {α:Type} {p:Prop} [Decidable p] {a b:Option α} (h:∃ y,a=some y) (k:∃ y,b=some y):∃ y,(if p then a else b)=some y:=by
 split
 ·exact h
 ·exact k
theorem FP (x:Int) (b:Bool):∃ v,GF 20000 x b=some v:=by
 unfold GF;refine it ⟨_,rfl⟩ (ay (it ⟨_,rfl⟩ ⟨_,rfl⟩) fun _=>it ⟨_,rfl⟩ (ay (it ⟨_,rfl⟩ ⟨_,rfl⟩) fun _=>it ⟨_,rfl⟩ (ay (it ⟨_,rfl⟩ ⟨_,rfl⟩) fun _=>it ⟨_,rfl⟩ (it ⟨_,rfl⟩ (ay (it ⟨_,rfl⟩ ⟨_,rfl⟩) fun _=>it ⟨_,rfl⟩ ⟨_,rfl⟩)))))
theorem Ex (x:Int):∃ v,U7 20000 x=some v:=by
 unfold U7;exact it (FP _ _) (it (FP _ _) (it (FP _ _) (FP _ _)))
theorem T9 (s:ByteArray) (hz:s.size≤1000):∀ (m i fuel:Nat),i+m=s.size→m<fuel→∃ b,B6 20000 s fuel (i:Int)=some b
 | 0,i,fu+1,hi,_=>⟨true,by rw[B6.eq_2,if_neg (by omega)];rfl⟩
 | m+1,i,fu+1,hi,hf=>by
   obtain⟨b,hb⟩:=T9 s hz m (i+1) fu (by omega) (by omega);obtain⟨v,hv⟩:=Ex (AF s (i:Int));rw[B6.eq_2,if_pos (by omega),if_pos ⟨by omega,by omega⟩,hv,Option.bind_some,CP (by omega) (by omega)];split
   ·rw[Option.bind_some];split
    ·exact⟨_,rfl⟩
    ·exact⟨b,by exact_mod_cast hb⟩
   ·rw[Option.bind_some,if_neg (by decide)];exact⟨b,by exact_mod_cast hb⟩
theorem TO (s:ByteArray):∃ b,WQ 20000 s=some b:=by
 unfold WQ;by_cases q:(40:Int)<(s.size:Int)
 ·exact⟨false,by rw[if_pos q,Option.bind_some,if_pos rfl]⟩
 ·rw[if_neg q];by_cases e:s=ByteArray.mk #[]
  ·exact⟨false,by rw[if_pos e,Option.bind_some,if_pos rfl]⟩
  ·have hs:0<s.size:=by
    refine Classical.byContradiction fun q=>e ?_;have h1:s.data.size=0:=(show s.size=0 by omega)
    cases s with
    | mk d=>congr 1;exact Array.eq_empty_of_size_eq_zero h1
   obtain⟨v,hv⟩:=Ex (AF s 0);obtain⟨b,hb⟩:=T9 s (by omega) s.size 0 20000 (by omega) (by omega);rw[if_neg e,if_pos ⟨by omega,by omega⟩,hv,Option.bind_some,Option.bind_some];split
   ·exact⟨_,rfl⟩
   ·exact⟨b,hb⟩
theorem PK (s:ByteArray) (i:Int):∃ n:Nat,n<256∧AF s i=(n:Int):=by
 unfold AF;split
 ·exact⟨_,UInt8.toNat_lt _,rfl⟩
 ·exact⟨0,by omega,rfl⟩
theorem JR (s:ByteArray) (i:Int):Yl 20000 (AF s i)=U7 20000 (AF s i):=by
 obtain⟨n,hn,e⟩:=PK s i;rw[e];exact(Rb ⟨n,hn⟩).symm
theorem NP (s:ByteArray) (hz:s.size≤1000) (hs:¬ (1≤s.size∧s.size≤40)):∀ (m i f:Nat),i+m=s.size→m<f→Bv 20000 s f (i:Int)=some false
 | 0,i,f+1,hi,_=>by
   rw[Bv.eq_2,if_neg (by omega)];unfold KF;split
   ·rw[decide_eq_false (by omega)];rfl
   ·rfl
 | m+1,i,f+1,hi,hf=>by
   obtain⟨v,hv⟩:=Ex (AF s (i:Int));have ih:=NP s hz hs m (i+1) f (by omega) (by omega);rw[Bv.eq_2,if_pos (by omega),if_pos ⟨by omega,by omega⟩,JR,hv,Option.bind_some,CP (by omega) (by omega)];have ih:Bv 20000 s f ((i:Int)+1)=some false:=by exact_mod_cast ih
   rw[ih];split
   ·split
    ·rfl
    ·rw[Option.bind_some];split<;>rfl
   ·rfl
theorem QD (s:ByteArray) (h1:1≤s.size) (h2:s.size≤40):∀ (m i f:Nat),1≤i→i+m=s.size→m<f→Bv 20000 s f (i:Int)=B6 20000 s f (i:Int)
 | 0,i,f+1,_,hi,_=>by
   rw[Bv.eq_2,B6.eq_2,if_neg (by omega),if_neg (by omega)];unfold KF;rw[if_pos (by omega),decide_eq_true (by omega)];rfl
 | m+1,i,f+1,h0,hi,hf=>by
   obtain⟨v,hv⟩:=Ex (AF s (i:Int));have ih:=QD s h1 h2 m (i+1) f (by omega) (by omega) (by omega);have ih:Bv 20000 s f ((i:Int)+1)=B6 20000 s f ((i:Int)+1):=by exact_mod_cast ih
   rw[Bv.eq_2,B6.eq_2,if_pos (by omega),if_pos ⟨by omega,by omega⟩,if_pos (show (i:Int)<(s.size:Int)by omega),if_pos (show 0≤(i:Int)∧(i:Int)<(s.size:Int)from⟨by omega,by omega⟩),JR,hv,Option.bind_some,Option.bind_some,CP (by omega) (by omega),ih];by_cases a:v=3
   ·rw[a];rfl
   ·rw[if_pos a];by_cases b:v=2
    ·rw[b,if_neg (by simp),if_neg (by simp),Option.bind_some,Option.bind_some,decide_eq_false (by omega)]
    ·rw[if_pos b,if_pos b,decide_eq_true a]
theorem Rp (s:ByteArray) (hz:s.size≤1000):aJ 20000 s=WQ 20000 s:=by
 unfold aJ;by_cases q:1≤s.size∧s.size≤40
 ·obtain⟨v,hv⟩:=Ex (AF s 0);have ne:s≠ByteArray.mk #[]:=fun e=>by rw[e]at q;exact absurd q.1 (by decide)
  have r:=QD s q.1 q.2 (s.size-1) 1 19999 (by omega) (by omega) (by omega);have r:Bv 20000 s 19999 1=B6 20000 s 19999 1:=r;unfold WQ;rw[if_neg (by omega),if_neg ne,if_pos ⟨by omega,by omega⟩,hv,Option.bind_some,Option.bind_some,show Bv 20000 s 20000 0=_ from Bv.eq_2 20000 s 0 19999,show B6 20000 s 20000 0=_ from B6.eq_2 20000 s 0 19999,if_pos (by omega),if_pos ⟨by omega,by omega⟩,if_pos (show (0:Int)<(s.size:Int)by omega),if_pos (show 0≤(0:Int)∧(0:Int)<(s.size:Int)from⟨by omega,by omega⟩)];show (Yl 20000 (AF s 0)).bind _=if _ then _ else(U7 20000 (AF s 0)).bind _
  rw[JR,hv,Option.bind_some,Option.bind_some];by_cases a:v=3
  ·subst a;rw[if_neg (by simp),Option.bind_some,if_neg (by simp),if_neg (by simp),if_pos (by simp),decide_eq_false (by simp),Option.bind_some,if_neg (by simp),show AG ((0:Int)+1)=1 from rfl];exact r
  ·rw[if_pos a,decide_eq_true a,if_pos rfl];by_cases b:v=2
   ·subst b;rfl
   ·rw[if_pos b];rfl
 ·rw[show (0:Int)=((0:Nat):Int)from rfl,NP s hz q s.size 0 20000 (by omega) (by omega)];unfold WQ;by_cases a:(40:Int)<(s.size:Int)
  ·rw[if_pos a];rfl
  ·have e:s=ByteArray.mk #[]:=by
    have h1:s.data.size=0:=(show s.size=0 by omega)
    cases s with
    | mk d=>congr 1;exact Array.eq_empty_of_size_eq_zero h1
   rw[if_neg a,if_pos e];rfl
theorem Yc {s:ByteArray} (hz:s.size≤60):((∃ d,YN 20000 s=some (d,5))∧R8 20000 s=some ([],5))∨∃ t,HC t∧(Ac t).length≤200∧R8 20000 s=some (Ac t,0)∧∃ d e,YN 20000 s=some (d,e)∧(e=6∨e=0∧(0≤mk d 0↔Lx t [])):=by
 rcases OW (s:=s) (by omega)with⟨t,ht,hl,h1,h2⟩|⟨h1,h2⟩
 ·obtain⟨d,e,k1,k2⟩:=Sf ht (by omega);refine .inr ⟨t,ht,by omega,h2,d,e,?_,k2⟩;unfold YN;rw[h1,Option.bind_some,if_neg (by simp),Qg ht (by omega),Option.bind_some,if_neg (by simp),k1,Option.bind_some]
 ·refine .inl ⟨?_,h2⟩;unfold YN;rw[h1,Option.bind_some,if_pos (by simp)];exact⟨_,rfl⟩
theorem Vr (d:AI):Yu 20000 d (ByteArray.mk #[])=some (mk d 0):=by
 have e:VI 20000 d 0 (ByteArray.mk #[])=some 0:=rfl;unfold Yu;rw[e,Option.bind_some,QG];rfl
def an (l:List CN) (i:Nat):Prop:=∃ j:Nat,j<i∧(AA l (j:Int)).f0=(AA l (i:Int)).f0
theorem Wd (l:List CN) (hz:l.length≤1000) {i:Nat} (hi:i<l.length):∀ (m x f:Nat),x+m=i→m<f→(∀ j,j<x→(AA l ((j:Nat):Int)).f0≠(AA l (i:Int)).f0)→(an l i→Ck 20000 l (i:Int) f (x:Int)=some 9)∧(¬ an l i→Ck 20000 l (i:Int) f (x:Int)=Gy 20000 l (i:Int))
 | 0,x,f+1,hx,_,hn=>⟨fun⟨j,j1,j2⟩=>absurd j2 (hn j (by omega)),fun _=>by rw[Ck.eq_2,if_neg (by omega)]⟩
 | m+1,x,f+1,hx,hf,hn=>by
   rw[Ck.eq_2,if_pos (by omega),if_pos ⟨by omega,by omega⟩];by_cases c:(AA l (x:Int)).f0=(AA l (i:Int)).f0
   ·rw[if_pos c];exact⟨fun _=>rfl,fun h=>absurd ⟨x,by omega,c⟩ h⟩
   ·have ih:=Wd l hz hi m (x+1) f (by omega) (by omega) (fun j hj=>by
     by_cases e:j=x
     ·rw[e];exact c
     ·exact hn j (by omega))
    rw[if_neg c,CP (by omega) (by omega)];exact_mod_cast ih
theorem U5 {l:List CN} (hz:l.length≤1000) {i:Nat} (hi:i<l.length) (hr:GX (AA l (i:Int))) {mp:List (ByteArray×Int)} (hm:0<(Ay mp (AA l (i:Int)).f0).getD (0:Int)↔an l i):
 ∃ e e',Zs 20000 (AA l (i:Int)) mp=some e∧Vx 20000 l (i:Int)=some e'∧(e=6∨e=e'):=by
 have h1:=hr.1;have h2:=hr.2;obtain⟨b,hb⟩:=TO (AA l (i:Int)).f0;have hd:=Wd l hz hi i 0 20000 (by omega) (by omega) (fun j hj=>by omega);have hR:Vx 20000 l (i:Int)=if(!b)=true then some 8 else Ck 20000 l (i:Int) 20000 ((0:Nat):Int):=by
  unfold Vx;rw[if_pos ⟨by omega,by omega⟩,Rp _ (by omega),hb,Option.bind_some];rfl
 rw[hR];unfold Zs;rw[hb,Option.bind_some]
 cases b with
 | false=>exact⟨8,8,rfl,rfl,.inr rfl⟩
 | true=>
   rw[if_neg (show ¬ ((!true)=true)by simp),if_neg (show ¬ ((!true)=true)by simp)];by_cases c:an l i
   ·rw[if_pos (hm.2 c)];exact⟨9,9,rfl,hd.1 c,.inr rfl⟩
   ·rw[if_neg (fun h=>c (hm.1 h)),hd.2 c];unfold Gy;generalize hbb:(if(AA l (i:Int)).f1<(0:Int)then some true else some (decide ((2:Int)<(AA l (i:Int)).f1)):Option Bool)=bb;have hbb':∃ b,bb=some b:=by rw[←hbb];split<;>exact⟨_,rfl⟩
    obtain⟨b,rfl⟩:=hbb';rw[Option.bind_some,Option.bind_some]
    cases b with
    | true=>exact⟨1,1,rfl,rfl,.inr rfl⟩
    | false=>
      rw[if_neg (by simp),if_neg (by simp)];rcases Yc (s:=(AA l (i:Int)).f2) (by omega)with⟨⟨d,k1⟩,k2⟩|⟨t,ht,hl,k2,d,e,k1,k3⟩
      ·rw[k1,k2];exact⟨5,5,rfl,rfl,.inr rfl⟩
      ·obtain⟨b,u1,u2⟩:=NK ht (by omega) (ByteArray.mk #[]) (by decide);have u1:WS 20000 (Ac t) (ByteArray.mk #[])=some b:=u1;have ew:W (ByteArray.mk #[])=[]:=rfl;rw[ew]at u2;rw[k1,k2,Option.bind_some,Option.bind_some,if_neg (show ¬ ((Ac t,(0:Int)).2≠0)by simp),u1,Option.bind_some];rcases k3 with rfl|⟨rfl,k3⟩
       ·refine⟨6,if b=true then 14 else 0,rfl,?_,.inl rfl⟩;cases b<;>rfl
       ·show ∃ e e',(if(0:Int)≠0 then _ else(Yu 20000 d (ByteArray.mk #[])).bind _)=some e∧_;rw[if_neg (by simp),Vr,Option.bind_some]
        cases b with
        | true=>exact⟨14,14,if_pos (k3.2 (u2.1 rfl)),rfl,.inr rfl⟩
        | false=>exact⟨0,0,if_neg (fun h=>by have:=u2.2 (k3.1 h);cases this),rfl,.inr rfl⟩
end Go.Avl.T8
namespace Go.Avl.T8
open Go Go.RowKit Go.Proofs Go.Avl
set_option linter.all false
def MI (l:List CN) (i:Nat) (mp:List (ByteArray×Int)):Prop:=∀ n:ByteArray,0≤(Ay mp n).getD (0:Int)∧(Ay mp n).getD (0:Int)≤(i:Int)∧(0<(Ay mp n).getD (0:Int)↔∃ j:Nat,j<i∧(AA l (j:Int)).f0=n)
theorem N6 (l:List CN) (hz:l.length≤1000) (hr:∀ r∈l,GX r):∀ (m i f1 f2:Nat) (mp:List (ByteArray×Int)),i+m=l.length→m<f1→m<f2→MI l i mp→∃ a e a' e',Em 20000 l f1 mp (i:Int)=some (a,e)∧Co 20000 l f2 (i:Int)=some (a',e')∧(e=6∨a=a'∧e=e')
 | 0,i,f1+1,f2+1,mp,hi,_,_,_=>⟨_,_,_,_,by rw[Em.eq_2,if_neg (by omega)];rfl,by rw[Co.eq_2,if_neg (by omega)];rfl,.inr ⟨rfl,rfl⟩⟩
 | m+1,i,f1+1,f2+1,mp,hi,h1,h2,hm=>by
   obtain⟨e,e',k1,k2,k3⟩:=U5 (mp:=mp) hz (show i<l.length by omega) (hr _ (P6 l (by omega))) (hm _).2.2;have hm':=hm (AA l (i:Int)).f0;have hw:AG ((Ay mp (AA l (i:Int)).f0).getD (0:Int)+1)=(Ay mp (AA l (i:Int)).f0).getD (0:Int)+1:=CP (by omega) (by omega)
   obtain⟨a,c,a',c',r1,r2,r3⟩:=N6 l hz hr m (i+1) f1 f2 (BE mp (AA l (i:Int)).f0 ((Ay mp (AA l (i:Int)).f0).getD (0:Int)+1)) (by omega) (by omega) (by omega) (fun n=>by
    rw[Dg];by_cases q:(AA l (i:Int)).f0=n
    ·rw[if_pos q,Option.getD_some];exact⟨by omega,by omega,fun _=>⟨i,by omega,q⟩,fun _=>by omega⟩
    ·rw[if_neg q];obtain⟨u1,u2,u3⟩:=hm n;refine⟨u1,by omega,fun h=>?_,fun⟨j,j1,j2⟩=>u3.2 ⟨j,?_,j2⟩⟩
     ·obtain⟨j,j1,j2⟩:=u3.1 h;exact⟨j,by omega,j2⟩
     ·refine Classical.byContradiction fun h=>q ?_;have:j=i:=by omega
      rw[←this];exact j2)
   have r1:Em 20000 l f1 (BE mp (AA l (i:Int)).f0 ((Ay mp (AA l (i:Int)).f0).getD (0:Int)+1)) ((i:Int)+1)=some (a,c):=by exact_mod_cast r1
   have r2:Co 20000 l f2 ((i:Int)+1)=some (a',c'):=by exact_mod_cast r2
   rw[Em.eq_2,Co.eq_2,if_pos (by omega),if_pos ⟨by omega,by omega⟩,if_pos (show (i:Int)<(l.length:Int)by omega),k1,k2,Option.bind_some,Option.bind_some,hw,CP (x:=(i:Int)+1) (by omega) (by omega),r1,r2];by_cases q:e=6
   ·subst q;rw[if_pos (by decide)];by_cases q2:e'≠0
    ·rw[if_pos q2];exact⟨_,_,_,_,rfl,rfl,.inl rfl⟩
    ·rw[if_neg q2];exact⟨_,_,_,_,rfl,rfl,.inl rfl⟩
   ·have:e=e':=k3.resolve_left q;subst this;by_cases q2:e≠0
    ·rw[if_pos q2,if_pos q2];exact⟨_,_,_,_,rfl,rfl,.inr ⟨rfl,rfl⟩⟩
    ·rw[if_neg q2,if_neg q2];exact⟨_,_,_,_,rfl,rfl,r3⟩
end Go.Avl.T8
namespace Go.Avl.T8
open Go Go.RowKit Go.Proofs Go.Avl
set_option linter.all false
set_option maxRecDepth 10000
def sh (o:Int) (e:AR):AR:=AR.mk (e.f0+o) (e.f1+o) e.f2 e.f3
def ug:List Rx→Nat→List AR
 | [],_=>[]
 | t::l,q=>fe 0 (gI t q)::(gr t q++ug l (qb t q))
def uq:List Rx→Nat→Nat
 | [],q=>q
 | t::l,q=>uq l (qb t q)
def ul:List Rx→Nat→List Int
 | [],_=>[]
 | t::l,q=>gO t q::ul l (qb t q)
def UN (l:List Rx):Ar:=Ar.mk (uq l 1:Int) (ug l 1) 0 0
theorem Ku (t:Rx) (r q:Nat):gI t (r+q)=gI t r+(q:Int):=by unfold gI QM;omega
theorem Kf (t:Rx) (r q:Nat):gO t (r+q)=gO t r+(q:Int):=by unfold gO QM;omega
theorem Ww (t:Rx) (r q:Nat):qb t (r+q)=qb t r+q:=by unfold qb;omega
theorem LA:∀ (t:Rx) (r q:Nat),(gr t r).map (sh q)=gr t (r+q)
 | .non,r,q=>by simp[gr,sh,fe,Ku,Kf]
 | .one s,r,q=>by simp[gr,sh,Ku,Kf]
 | .cat a b,r,q=>by simp[gr,sh,fe,Ku,Kf,Ww,LA a,LA b]
 | .alt a b,r,q=>by simp[gr,sh,fe,Ku,Kf,Ww,LA a,LA b]
 | .un k a,r,q=>by
   by_cases h1:k=6<;>by_cases h2:k=5<;>simp[gr,sh,fe,Ku,Kf,LA a,h1,h2]
inductive Pl:List Rx→Nat→Rx→Nat→Prop
 | here {t:Rx} {l:List Rx} {q:Nat}:Pl (t::l) q t q
 | there {s t:Rx} {l:List Rx} {q p:Nat}:Pl l (qb s q) t p→Pl (s::l) q t p
theorem Pl.mem {l:List Rx} {q p:Nat} {t:Rx} (h:Pl l q t p):t∈l:=by
 induction h with
 | here=>simp
 | there _ ih=>simp[ih]
theorem S6:∀ (l:List Rx) (q:Nat),q≤uq l q
 | [],q=>Nat.le_refl _
 | t::l,q=>Nat.le_trans (by have:=HJ t q;omega) (S6 l (qb t q))
theorem Pl.rng {l:List Rx} {q p:Nat} {t:Rx} (h:Pl l q t p):q≤p∧qb t p≤uq l q:=by
 induction h with
 | @here t l q=>exact⟨Nat.le_refl _,S6 l _⟩
 | @there s t l q p h ih=>
   have:=HJ s q;exact⟨by omega,ih.2⟩
theorem Pl.apart {l:List Rx} {q p p':Nat} {t t':Rx} (h:Pl l q t p) (h':Pl l q t' p'):(t=t'∧p=p')∨qb t p≤p'∨qb t' p'≤p:=by
 induction h with
 | @here t l q=>
   cases h' with
   | here=>exact .inl ⟨rfl,rfl⟩
   | there k=>exact .inr (.inl k.rng.1)
 | @there s t l q p h ih=>
   cases h' with
   | here=>exact .inr (.inr h.rng.1)
   | there k=>exact ih k
theorem Gv:∀ (l:List Rx) (q:Nat) (e:AR),e∈ug l q↔∃ t p,Pl l q t p∧(e=fe 0 (gI t p)∨e∈gr t p)
 | [],q,e=>by
   constructor
   ·intro h;simp[ug]at h
   ·rintro⟨t,p,h,_⟩;cases h
 | t::l,q,e=>by
   have ih:=Gv l (qb t q) e;simp only[ug,List.mem_cons,List.mem_append,ih];constructor
   ·rintro (h|h|⟨m,p,hp,h⟩)
    ·exact⟨t,q,.here,.inl h⟩
    ·exact⟨t,q,.here,.inr h⟩
    ·exact⟨m,p,.there hp,h⟩
   ·rintro⟨m,p,hp,h⟩
    cases hp with
    | here=>
      rcases h with h|h
      ·exact .inl h
      ·exact .inr (.inl h)
    | there hp=>exact .inr (.inr ⟨m,p,hp,h⟩)
theorem Hp:∀ (l:List Rx) (q:Nat),(ul l q).length=l.length
 | [],_=>rfl
 | t::l,q=>by simp[ul,Hp l]
theorem Tx:∀ (l:List Rx) (q j:Nat) (h:j<l.length),∃ p,Pl l q l[j] p∧(ul l q)[j]'(by rw[Hp];exact h)=gO l[j] p
 | t::l,q,0,_=>⟨q,.here,rfl⟩
 | t::l,q,j+1,h=>by
   obtain⟨p,p1,p2⟩:=Tx l (qb t q) j (by simpa using h);exact⟨p,.there p1,p2⟩
structure Sm (t:Rx):Prop where
 ok:HC t
 s:(Ac t).length≤90
theorem Ov:∀ (l:List Rx) (q:Nat),(∀ t∈l,Sm t)→uq l q≤q+180*l.length∧(ug l q).length≤361*l.length
 | [],q,_=>by simp[uq,ug]
 | t::l,q,h=>by
   have hs:=(h t (by simp)).s;have hg:=DF t q;have ih:=Ov l (qb t q) fun s hs=>h s (by simp[hs]);simp only[uq,ug,List.length_cons,List.length_append];have:qb t q=q+2*(Ac t).length:=rfl;omega
theorem WK {l:List Rx} (hs:∀ t∈l,Sm t) (hl:l.length≤20):Rt (UN l):=by
 have h1:=Ov l 1 hs;have h2:=S6 l 1;refine⟨⟨by show (0:Int)≤0;omega,by show (0:Int)<(uq l 1:Int);omega⟩,⟨by show (0:Int)≤0;omega,by show (0:Int)<(uq l 1:Int);omega⟩,fun e he=>?_,by show (uq l 1:Int)≤8000;omega,by show (ug l 1).length≤8000;omega,fun e he=>?_⟩
 ·obtain⟨t,p,hp,h⟩:=(Gv l 1 e).1 he;have hr:=hp.rng;have g:=HJ t p;show 0≤e.f0∧e.f0<(uq l 1:Int)∧0≤e.f1∧e.f1<(uq l 1:Int);rcases h with rfl|h
  ·show 0≤(0:Int)∧(0:Int)<(uq l 1:Int)∧0≤gI t p∧gI t p<(uq l 1:Int);omega
  ·obtain⟨a,b,c,d,_⟩:=Bs t p (hs t hp.mem).ok e h;omega
 ·obtain⟨t,p,hp,h⟩:=(Gv l 1 e).1 he;rcases h with rfl|h
  ·exact GI
  ·exact(Bs t p (hs t hp.mem).ok e h).2.2.2.2
theorem Y7 {l:List Rx} (hs:∀ t∈l,Sm t) {t:Rx} {p:Nat} (hp:Pl l 1 t p) {x r:Int} {w:List Nat} (h:PW (ug l 1) x w r):(p:Int)≤x→x<(qb t p:Int)→PW (gr t p) x w r∧(p:Int)≤r∧r<(qb t p:Int):=by
 have key:∀ e∈ug l 1,(p:Int)≤e.f0→e.f0<(qb t p:Int)→e∈gr t p:=by
  intro e he h1 h2;obtain⟨s,q,hq,k⟩:=(Gv l 1 e).1 he;have hr:=hp.rng;rcases k with rfl|k
  ·have h1:(p:Int)≤0:=h1;omega
  ·obtain⟨a,b,_⟩:=Bs s q (hs s hq.mem).ok e k;rcases hp.apart hq with⟨rfl,rfl⟩|c|c
   ·exact k
   ·omega
   ·omega
 induction h with
 | nil x=>exact fun h1 h2=>⟨.nil x,h1,h2⟩
 | @eps e w r he hf k ih=>
   intro h1 h2;have m:=key e he h1 h2;obtain⟨_,_,c,d,_⟩:=Bs t p (hs t hp.mem).ok e m;obtain⟨i1,i2⟩:=ih c d;exact⟨.eps m hf i1,i2⟩
 | @byte e b w r he hf hb k ih=>
   intro h1 h2;have m:=key e he h1 h2;obtain⟨_,_,c,d,_⟩:=Bs t p (hs t hp.mem).ok e m;obtain⟨i1,i2⟩:=ih c d;exact⟨.byte m hf hb i1,i2⟩
theorem PW.sub {l l':List AR} (hl:∀ e∈l,e∈l') {x r:Int} {w:List Nat} (h:PW l x w r):PW l' x w r:=by
 induction h with
 | nil x=>exact .nil x
 | eps he hf _ ih=>exact .eps (hl _ he) hf ih
 | byte he hf hb _ ih=>exact .byte (hl _ he) hf hb ih
theorem Yb {l:List Rx} (hs:∀ t∈l,Sm t) {x r:Int} {w:List Nat} (h:PW (ug l 1) x w r):x=0→0<r→∃ t p,Pl l 1 t p∧PW (ug l 1) (gI t p) w r:=by
 have key:∀ e∈ug l 1,e.f0=0→∃ t p,Pl l 1 t p∧e=fe 0 (gI t p):=by
  intro e he h0;obtain⟨s,q,hq,k⟩:=(Gv l 1 e).1 he;rcases k with k|k
  ·exact⟨s,q,hq,k⟩
  ·obtain⟨a,_⟩:=Bs s q (hs s hq.mem).ok e k;have:=hq.rng;omega
 cases h with
 | nil=>intro h0 h1;omega
 | @eps e w r he hf k=>
   intro h0 _;obtain⟨t,p,hp,rfl⟩:=key e he h0;exact⟨t,p,hp,k⟩
 | @byte e b w r he hf hb k=>
   intro h0 _;obtain⟨t,p,hp,rfl⟩:=key e he h0;cases hf
theorem Vk {l:List Rx} (hs:∀ t∈l,Sm t) {t:Rx} {p:Nat} (hp:Pl l 1 t p) (w:List Nat):PW (ug l 1) 0 w (gO t p)↔Lx t w:=by
 have hr:=hp.rng;have g:=HJ t p;rw[←QB (hs t hp.mem).ok p];constructor
 ·intro h;obtain⟨s,q,hq,k⟩:=Yb hs h rfl (by omega);have gq:=HJ s q;obtain⟨a,b,c⟩:=Y7 hs hq k (by omega) (by omega);rcases hp.apart hq with⟨rfl,rfl⟩|c|c
  ·exact a
  ·omega
  ·omega
 ·intro h;exact PW.eps (e:=fe 0 (gI t p)) ((Gv l 1 _).2 ⟨t,p,hp,.inl rfl⟩) rfl (h.sub fun e he=>(Gv l 1 e).2 ⟨t,p,hp,.inr he⟩)
theorem OT (rec15:Int→List AR→List Int→Int→Option (Ar×List Int)) (p0:List Ar) (o:Int) (la:List Int) (i:Nat) (n:Ar) (hn:AA p0 (i:Int)=n) (hs:Rt n) (hz:n.f1.length≤2000) (ho:0≤o∧o≤100000):
 ∀ (d j m:Nat) (acc:List AR),j+d=n.f1.length→d<m→acc.length≤10000+j→
 FQ 20000 rec15 p0 o la (i:Int) m acc (j:Int)=JJ 20000 rec15 p0 o la (i:Int) (acc++(n.f1.drop j).map (sh o))
 | 0,j,m+1,acc,hj,_,ha=>by
   rw[FQ.eq_2,hn,if_neg (by omega),List.drop_of_length_le (by omega)];simp
 | d+1,j,m+1,acc,hj,hm,ha=>by
   have hj':j<n.f1.length:=by omega
   have g:0≤(j:Int)∧(j:Int)<(n.f1.length:Int):=⟨by omega,by omega⟩;have he:=hs.ed n.f1[j] (List.getElem_mem hj');have hsz:=hs.n1;have ih:=OT rec15 p0 o la i n hn hs hz ho d (j+1) m (acc++[sh o n.f1[j]]) (by omega) (by omega) (by simp;omega);rw[FQ.eq_2,hn,if_pos g.2,if_pos g,Ae _ j hj',w6 (x:=n.f1[j].f0+o) (by omega) (by omega),w6 (x:=n.f1[j].f1+o) (by omega) (by omega),if_pos (by simp;omega),w6 (x:=(j:Int)+1) (by omega) (by omega),List.drop_eq_getElem_cons hj',List.map_cons];rw[List.append_assoc]at ih;exact_mod_cast ih
theorem NW (l:List Rx) (hs:∀ t∈l,Sm t) (hl:l.length≤20):∀ (d i m q:Nat) (acc:List AR) (la:List Int),i+d=l.length→d<m→q≤1+180*i→acc.length≤361*i→la.length≤i→
 Eg 20000 (l.map gN) m (q:Int) acc la (i:Int)=some (Ar.mk (uq (l.drop i) q:Int) (acc++ug (l.drop i) q) 0 0,la++ul (l.drop i) q)
 | 0,i,m+1,q,acc,la,hi,_,ho,ha,hla=>by
   rw[Eg.eq_2,if_neg (by rw[List.length_map];omega),List.drop_of_length_le (by omega),Mn];simp[uq,ug,ul]
 | d+1,i,m+1,q,acc,la,hi,hm,ho,ha,hla=>by
   have hi':i<l.length:=by omega
   have hi2:i<(l.map gN).length:=by rw[List.length_map];exact hi'
   have g:0≤(i:Int)∧(i:Int)<((l.map gN).length:Int):=⟨by omega,by omega⟩;have ht:=hs l[i] (List.getElem_mem hi');have hts:=ht.s;have hrt:=P3 ht.ok (by omega);have hgl:AA (l.map gN) (i:Int)=gN l[i]:=by rw[Ae _ i hi2,List.getElem_map]
   have hlen:(gN l[i]).f1.length≤400:=by have:=DF l[i] 0;show (gr l[i] 0).length≤400;omega
   have e1:(gN l[i]).f2+(q:Int)=gI l[i] q:=by have:=Ku l[i] 0 q;rw[Nat.zero_add]at this;exact this.symm
   have e2:(gN l[i]).f3+(q:Int)=gO l[i] q:=by have:=Kf l[i] 0 q;rw[Nat.zero_add]at this;exact this.symm
   have e3:(gN l[i]).f1.map (sh q)=gr l[i] q:=by have:=LA l[i] 0 q;rw[Nat.zero_add]at this;exact this
   have e4:(q:Int)+(gN l[i]).f0=(qb l[i] q:Int):=by show (q:Int)+((2*(Ac l[i]).length:Nat):Int)=_;unfold qb;omega
   have gq:=HJ l[i] q;have hq:qb l[i] q=q+2*(Ac l[i]).length:=rfl;have hgr:=DF l[i] q;have ih:=NW l hs hl d (i+1) m (qb l[i] q) (acc++(fe 0 (gI l[i] q)::gr l[i] q)) (la++[gO l[i] q]) (by omega) (by omega) (by omega) (by simp;omega) (by simp;omega);rw[Eg.eq_2,if_pos g.2,if_pos g,hgl,e1,w6 (x:=gI l[i] q) (by omega) (by omega),if_pos (by simp;omega)];have e:=OT (Eg 20000 (l.map gN) m) (l.map gN) (q:Int) la i (gN l[i]) hgl hrt (by omega) (by omega) (gN l[i]).f1.length 0 20000 (acc++[fe 0 (gI l[i] q)]) (by omega) (by omega) (by simp;omega);rw[Int.natCast_zero,List.drop_zero,e3]at e;refine Eq.trans e ?_;unfold JJ LY;rw[hgl,e2,e4,w6 (x:=gO l[i] q) (by omega) (by omega),if_pos (by simp;omega),w6 (x:=(qb l[i] q:Int)) (by omega) (by omega),w6 (x:=(i:Int)+1) (by omega) (by omega),List.drop_eq_getElem_cons hi'];simp only[uq,ug,ul];simp only[List.append_assoc,List.cons_append,List.nil_append]at ih⊢
   exact_mod_cast ih
theorem Ul {l:List Rx} (hs:∀ t∈l,Sm t) (hl:l.length≤20):am 20000 (l.map gN)=some (UN l,ul l 1):=by
 have:=NW l hs hl l.length 0 20000 1 [] [] (by omega) (by omega) (by omega) (by simp) (by simp);rw[List.drop_zero,List.nil_append,List.nil_append]at this;exact_mod_cast this
theorem Wc:∀ (l:List Rx) (q:Nat) (x:Int),x∈ul l q→(q:Int)≤x
 | [],q,x,h=>by cases h
 | t::l,q,x,h=>by
   have g:=HJ t q;rcases List.mem_cons.1 h with h|h
   ·omega
   ·have:=Wc l _ x h;omega
theorem Tq:∀ (l:List Rx) (q:Nat),(ul l q).Pairwise (· < ·)
 | [],_=>.nil
 | t::l,q=>.cons (fun x hx=>by
    have g:=HJ t q;have:=Wc l _ x hx
    omega) (Tq l _)
theorem XL {l:List Rx} {i j:Nat} (hi:i<l.length) (hj:j<l.length) (h:AA (ul l 1) (i:Int)=AA (ul l 1) (j:Int)):i=j:=by
 have p:=Tq l 1;have hl:=Hp l 1;rw[Ae _ i (by omega),Ae _ j (by omega)]at h;rw[List.pairwise_iff_getElem]at p;rcases Nat.lt_trichotomy i j with c|c|c
 ·have:=p i j (by omega) (by omega) c;omega
 ·exact c
 ·have:=p j i (by omega) (by omega) c;omega
theorem On {l:List Rx} {i:Nat} (hi:i<l.length):∃ p,Pl l 1 l[i] p∧AA (ul l 1) (i:Int)=gO l[i] p∧1≤gO l[i] p∧gO l[i] p<(uq l 1:Int):=by
 obtain⟨p,p1,p2⟩:=Tx l 1 i hi;have hr:=p1.rng;have g:=HJ l[i] p;exact⟨p,p1,by rw[Ae _ i (by rw[Hp];exact hi)];exact p2,by omega,by omega⟩
def MP (l:List Rx) (i:Nat) (x:List Int):Prop:=∀ q:Nat,q<uq l 1→(AA x (q:Int)= -1∧∀ j,j<i→AA (ul l 1) (j:Int)≠(q:Int))∨∃ j,j<i∧AA (ul l 1) (j:Int)=(q:Int)∧AA x (q:Int)=(j:Int)
theorem RA (n:Ar) (la:List Int) (N:Nat) (hn:n.f0=(N:Int)) (hN:N≤8000):∀ (m i f:Nat) (x:List Int),i+m=N→m<f→x.length=N→(∀ q:Nat,q<i→AA x (q:Int)= -1)→∃ y,y.length=N∧(∀ q:Nat,q<N→AA y (q:Int)= -1)∧Er 20000 (n,la) f x (i:Int)=Jr 20000 (n,la) y
 | 0,i,f+1,x,hi,hf,hx,hq=>⟨x,hx,fun q h=>hq q (by omega),by rw[Er.eq_2,List.length_replicate,show (n,la).1.f0=(N:Int)from hn,if_neg (by omega)]⟩
 | m+1,i,f+1,x,hi,hf,hx,hq=>by
   obtain⟨y,y1,y2,y3⟩:=RA n la N hn hN m (i+1) f (AU x (i:Int) (-1)) (by omega) (by omega) (by rw[Au,hx]) (fun q h=>by
    rw[FJ _ _ _ _ (by omega)];by_cases e:q=i
    ·rw[if_pos e]
    ·rw[if_neg e];exact hq q (by omega))
   refine⟨y,y1,y2,?_⟩;rw[Er.eq_2,List.length_replicate,show (n,la).1.f0=(N:Int)from hn,if_pos (by omega),if_pos ⟨by omega,by omega⟩,CP (by omega) (by omega)];exact_mod_cast y3
theorem SH (l:List Rx) (hl:l.length≤20) (n:Ar):∀ (m i f:Nat) (x:List Int),i+m=l.length→m<f→x.length=uq l 1→MP l i x→∃ y,y.length=uq l 1∧MP l l.length y∧Ec 20000 (n,ul l 1) f x (i:Int)=J3 20000 (n,ul l 1) y
 | 0,i,f+1,x,hi,_,hx,hp=>⟨x,hx,by rw[←show i=l.length by omega];exact hp,by rw[Ec.eq_2,if_neg (by rw[show (n,ul l 1).2.length=l.length from Hp l 1];omega)]⟩
 | m+1,i,f+1,x,hi,hf,hx,hp=>by
   have hl2:(n,ul l 1).2.length=l.length:=Hp l 1;obtain⟨p,p1,p2,p3,p4⟩:=On (l:=l) (i:=i) (by omega);obtain⟨u,hu⟩:=Int.eq_ofNat_of_zero_le (show 0≤gO l[i] p by omega)
   obtain⟨y,y1,y2,y3⟩:=SH l hl n m (i+1) f (AU x (u:Int) (i:Int)) (by omega) (by omega) (by rw[Au,hx]) (fun q hq=>by
    rw[FJ _ _ _ _ (by omega)];by_cases e:q=u
    ·rw[if_pos e];exact .inr ⟨i,by omega,by rw[p2,hu,e],rfl⟩
    ·rw[if_neg e];rcases hp q hq with⟨a,b⟩|⟨j,j1,j2,j3⟩
     ·refine .inl ⟨a,fun j hj=>?_⟩;by_cases c:j=i
      ·rw[c,p2,hu];omega
      ·exact b j (by omega)
     ·exact .inr ⟨j,by omega,j2,j3⟩)
   refine⟨y,y1,y2,?_⟩;rw[Ec.eq_2,if_pos (by omega),if_pos ⟨by omega,by omega⟩,show AA (n,ul l 1).2 (i:Int)=(u:Int)by rw[←hu, ←p2],if_pos ⟨by omega,by omega⟩,CP (by omega) (by omega)];exact_mod_cast y3
theorem Ns {M:List Int} {t:List Bool}:∀ (m i:Nat) (o:Int),i+m=t.length→(M5 M t m i o=o∨∃ j:Nat,j<t.length∧j<M.length∧AA t (j:Int)=true∧0≤AA M (j:Int)∧M5 M t m i o=AA M (j:Int))∧(0≤o→0≤M5 M t m i o∧M5 M t m i o≤o)∧∀ j:Nat,i≤j→j<t.length→j<M.length→AA t (j:Int)=true→0≤AA M (j:Int)→0≤M5 M t m i o∧M5 M t m i o≤AA M (j:Int)
 | 0,i,o,hi=>⟨.inl rfl,fun h=>⟨h,Int.le_refl _⟩,fun j h1 h2=>by omega⟩
 | m+1,i,o,hi=>by
   obtain⟨a,b,c⟩:=Ns (M:=M) (t:=t) m (i+1) (QW M t i o) (by omega);rw[M5];by_cases q:AA t (i:Int)=true∧i<M.length∧0≤AA M (i:Int)∧(o<0∨AA M (i:Int)<o)
   ·have e:QW M t i o=AA M (i:Int):=if_pos q;rw[e]at a b c⊢
    obtain⟨b1,b2⟩:=b q.2.2.1;refine⟨?_,fun h=>⟨b1,by omega⟩,fun j h1 h2 h3 h4 h5=>?_⟩
    ·rcases a with a|a
     ·exact .inr ⟨i,by omega,q.2.1,q.1,q.2.2.1,a⟩
     ·exact .inr a
    ·by_cases k:j=i
     ·subst k;exact⟨b1,b2⟩
     ·exact c j (by omega) h2 h3 h4 h5
   ·have e:QW M t i o=o:=if_neg q;rw[e]at a b c⊢
    refine⟨a,b,fun j h1 h2 h3 h4 h5=>?_⟩;by_cases k:j=i
    ·subst k;have h0:0≤o:=Classical.byContradiction fun z=>q ⟨h4,h3,h5,.inl (by omega)⟩;have h1:¬ AA M (j:Int)<o:=fun z=>q ⟨h4,h3,h5,.inr z⟩;obtain⟨b1,b2⟩:=b h0;exact⟨b1,by omega⟩
    ·exact c j (by omega) h2 h3 h4 h5
def FM (l:List Rx) (w:List Nat) (r:Int):Prop:=(r= -1∧∀ j (h:j<l.length),¬ Lx l[j] w)∨∃ (j:Nat) (h:j<l.length),r=(j:Int)∧Lx l[j] w∧∀ i (k:i<l.length),i<j→¬ Lx l[i] w
theorem Vv {l:List Rx} (hs:∀ t∈l,Sm t) (hl:l.length≤20) {M:List Int} (hM:M.length=uq l 1) (hp:MP l l.length M) (w:List Nat):FM l w (MK M (fS (UN l) (F0 (UN l)) w)):=by
 have hrt:=WK hs hl;have hlen:(fS (UN l) (F0 (UN l)) w).length=uq l 1:=Pt (F5 _) w;have lang:∀ i (h:i<l.length),AA (fS (UN l) (F0 (UN l)) w) (AA (ul l 1) (i:Int))=true↔Lx l[i] w:=by
  intro i hi;obtain⟨p,p1,p2,p3,p4⟩:=On hi;rw[p2,Wl hrt (by omega), ←Vk hs p1 w];rfl
 obtain⟨a,_,c⟩:=Ns (M:=M) (t:=fS (UN l) (F0 (UN l)) w) (fS (UN l) (F0 (UN l)) w).length 0 (-1) (by omega);have eM:M5 M (fS (UN l) (F0 (UN l)) w) (fS (UN l) (F0 (UN l)) w).length 0 (-1)=MK M (fS (UN l) (F0 (UN l)) w):=rfl;rw[eM]at a;have c:∀ j:Nat,0≤j→j<_→j<M.length→AA (fS (UN l) (F0 (UN l)) w) (j:Int)=true→0≤AA M (j:Int)→0≤MK M (fS (UN l) (F0 (UN l)) w)∧MK M (fS (UN l) (F0 (UN l)) w)≤AA M (j:Int):=c;have M6:∀ i (h:i<l.length),Lx l[i] w→0≤MK M (fS (UN l) (F0 (UN l)) w)∧MK M (fS (UN l) (F0 (UN l)) w)≤(i:Int):=by
  intro i hi hx;obtain⟨p,p1,p2,p3,p4⟩:=On hi;obtain⟨u,hu⟩:=Int.eq_ofNat_of_zero_le (show 0≤gO l[i] p by omega);have hL:=(lang i hi).2 hx;rw[p2,hu]at hL;have hv:AA M (u:Int)=(i:Int):=by
   rcases hp u (by omega)with⟨_,b⟩|⟨j,j1,j2,j3⟩
   ·exact(b i hi (by rw[p2,hu])).elim
   ·rw[j3,XL (l:=l) j1 hi (by rw[j2,p2,hu])]
  have:=c u (by omega) (by omega) (by omega) hL (by omega);omega
 rcases a with a|⟨q,q1,q2,q3,q4,q5⟩
 ·refine .inl ⟨a,fun j hj hx=>?_⟩;have:=M6 j hj hx;omega
 ·rcases hp q (by omega)with⟨b,_⟩|⟨j,j1,j2,j3⟩
  ·omega
  ·refine .inr ⟨j,j1,by omega,?_,fun i hi hlt hx=>?_⟩
   ·rw[←j2]at q3;exact(lang j j1).1 q3
   ·have:=M6 i hi hx;omega
structure az (p:List CN) (l:List Rx):Prop where
 len:l.length=p.length
 sm:∀ t∈l,Sm t
 pr:∀ i (h:i<l.length),WC 20000 (AA p (i:Int)).f2=some (Ac l[i],0)∧R8 20000 (AA p (i:Int)).f2=some (Ac l[i],0)
theorem Q5 {p:List CN} {l:List Rx} (ht:az p l) (hz:p.length≤20) (s:ByteArray) (hs:s.size≤1000) {r:Int} (hr:FM l (W s) r):∀ (m i f:Nat),i+m=p.length→m<f→(∀ j (h:j<l.length),j<i→¬ Lx l[j] (W s))→FN 20000 p s f (i:Int)=some r
 | 0,i,f+1,hi,_,hj=>by
   have hl:=ht.len;rw[FN.eq_2,if_neg (by omega)];rcases hr with⟨rfl,_⟩|⟨j,h,_,k,_⟩
   ·rfl
   ·exact(hj j h (by omega) k).elim
 | m+1,i,f+1,hi,hf,hj=>by
   have hl:=ht.len;have hi':i<l.length:=by omega
   have hm:=ht.sm l[i] (List.getElem_mem hi');have hms:=hm.s;obtain⟨b,b1,b2⟩:=NK hm.ok (by omega) s hs;have b1:WS 20000 (Ac l[i]) s=some b:=b1;rw[FN.eq_2,if_pos (by omega),if_pos ⟨by omega,by omega⟩,(ht.pr i hi').2,Option.bind_some,b1,Option.bind_some];by_cases q:Lx l[i] (W s)
   ·rw[b2.2 q,if_pos rfl];rcases hr with⟨_,k⟩|⟨j,h,rfl,k,k2⟩
    ·exact(k i hi' q).elim
    ·have:j=i:=by
      rcases Nat.lt_trichotomy j i with c|c|c
      ·exact(hj j h c k).elim
      ·exact c
      ·exact(k2 i hi' c q).elim
     rw[this]
   ·rw[if_neg (fun h=>q (b2.1 h)),CP (by omega) (by omega)]
    have:=Q5 ht hz s hs hr m (i+1) f (by omega) (by omega) (fun j h c=>by
     by_cases e:j=i
     ·subst e;exact q
     ·exact hj j h (by omega))
    exact_mod_cast this
theorem Ql (p:List CN) (i:Int):∀ (f:Nat) (x:Int),Ck 20000 p i f x=some 0→Gy 20000 p i=some 0
 | 0,x,h=>by cases h
 | f+1,x,h=>by
   rw[Ck.eq_2]at h;split at h
   ·split at h
    ·split at h
     ·cases h
     ·exact Ql p i f _ h
    ·cases h
   ·exact h
theorem U9 {p:List CN} {i:Int} (h:Vx 20000 p i=some 0):∃ r,R8 20000 (AA p i).f2=some (r,0):=by
 unfold Vx at h;split at h
 ·obtain⟨b,_,h⟩:=HS h;split at h
  ·cases h
  ·have h:=Ql p i _ _ h;unfold Gy at h;obtain⟨c,_,h⟩:=HS h;split at h
   ·cases h
   ·obtain⟨⟨r,e⟩,k,h⟩:=HS h;split at h
    ·next q=>
     have:e=0:=Option.some.inj h;exact(q this).elim
    ·next q=>
     have:e=0:=Classical.byContradiction q;exact⟨r,by rw[k,this]⟩
 ·cases h
theorem K5 (p:List CN) (hz:p.length≤1000):∀ (f i:Nat) (a:Int),Co 20000 p f (i:Int)=some (a,0)→∀ j:Nat,i≤j→j<p.length→Vx 20000 p (j:Int)=some 0
 | 0,i,a,h=>by cases h
 | f+1,i,a,h=>by
   intro j h1 h2;rw[Co.eq_2,if_pos (by omega)]at h;obtain⟨e,k,h⟩:=HS h;split at h
   ·next q=>
    have:e=0:=congrArg Prod.snd (Option.some.inj h);exact(q this).elim
   ·next q=>
    have e0:e=0:=Classical.byContradiction q;rw[CP (by omega) (by omega)]at h;by_cases c:j=i
    ·subst c;rw[k,e0]
    ·exact K5 p hz f (i+1) a (by exact_mod_cast h) j (by omega) h2
theorem Qv {α:Type} {P:Nat→α→Prop}:∀ n:Nat,(∀ i,i<n→∃ t,P i t)→∃ l:List α,l.length=n∧∀ i (h:i<l.length),P i l[i]
 | 0,_=>⟨[],rfl,fun i h=>by cases h⟩
 | n+1,hp=>by
   obtain⟨l,l1,l2⟩:=Qv n fun i hi=>hp i (by omega);obtain⟨t,ht⟩:=hp n (by omega);refine⟨l++[t],by simp[l1],fun i h=>?_⟩;by_cases c:i<l.length
   ·rw[List.getElem_append_left c];exact l2 i c
   ·have:i=n:=by rw[List.length_append]at h;simp at h;omega
    subst this;rw[List.getElem_append_right (by omega)];simpa [l1]using ht
theorem Xa {p:List CN} (hz:p.length≤1000) (hr:∀ i:Nat,i<p.length→(AA p (i:Int)).f2.size≤40) {a:Int} {f:Nat} (h:Co 20000 p f (0:Int)=some (a,0)):∃ l,az p l:=by
 have key:∀ i,i<p.length→∃ t:Rx,Sm t∧WC 20000 (AA p (i:Int)).f2=some (Ac t,0)∧R8 20000 (AA p (i:Int)).f2=some (Ac t,0):=by
  intro i hi;have hsz:=hr i hi;obtain⟨r,k⟩:=U9 (K5 p hz f 0 a (by exact_mod_cast h) i (by omega) hi);rcases OW (s:=(AA p (i:Int)).f2) (by omega)with⟨t,ht,hl,p1,p2⟩|⟨p1,p2⟩
  ·exact⟨t,⟨ht,by omega⟩,p1,p2⟩
  ·rw[p2]at k;have:(5:Int)=0:=congrArg Prod.snd (Option.some.inj k);omega
 obtain⟨l,l1,l2⟩:=Qv p.length key;refine⟨l,l1,fun t ht=>?_,fun i hi=>(l2 i hi).2⟩;obtain⟨i,hi,rfl⟩:=List.getElem_of_mem ht;exact(l2 i hi).1
theorem QI {p:List CN} {l:List Rx} (ht:az p l) (hz:p.length≤20):∀ (m i f:Nat),i+m=p.length→m<f→Ek 20000 p f ((l.take i).map gN) (i:Int)=JY 20000 (l.map gN)
 | 0,i,f+1,hi,_=>by
   have hl:=ht.len;rw[Ek.eq_2,if_neg (by omega),List.take_of_length_le (by omega)]
 | m+1,i,f+1,hi,hf=>by
   have hl:=ht.len;have hi':i<l.length:=by omega
   have hm:=ht.sm l[i] (List.getElem_mem hi');have hms:=hm.s;have ih:=QI ht hz m (i+1) f (by omega) (by omega);rw[Ek.eq_2,if_pos (by omega),if_pos ⟨by omega,by omega⟩,(ht.pr i hi').1,Option.bind_some,Qg hm.ok (by omega),Option.bind_some,if_neg (by simp),if_pos (by simp;omega),CP (by omega) (by omega)];rw[←List.take_append_getElem hi',List.map_append]at ih;exact_mod_cast ih
theorem VC {p:List CN} {l:List Rx} (ht:az p l) (hz:p.length≤20):∃ d e,Ek 20000 p 20000 [] (0:Int)=(if e≠0 then some (AI.mk (Vector.replicate 256 (0:Int)) [] [],e)else(Xh 20000 d).bind fun t16=>some (t16.1,t16.2))∧(e=6∨e=0∧Dr d∧∀ w:List Nat,(∀ b∈w,b<256)→FM l w (mk d (Xq d 0 w))):=by
 have hl:=ht.len;have h1:=QI ht hz p.length 0 20000 (by omega) (by omega);have hun:=Ov l 1 ht.sm;have hN:(UN l).f0=((uq l 1:Nat):Int):=rfl;obtain⟨y,y1,y2,y3⟩:=RA (UN l) (ul l 1) (uq l 1) hN (by omega) (uq l 1) 0 20000 (List.replicate (uq l 1) 0) (by omega) (by omega) (by simp) (fun q hq=>by omega);obtain⟨z,z1,z2,z3⟩:=SH l (by omega) (UN l) l.length 0 20000 y (by omega) (by omega) y1 (fun q hq=>.inl ⟨y2 q hq,fun j hj=>by omega⟩);have hrt:=WK ht.sm (by omega)
 obtain⟨d,e,k1,k2⟩:=Qy hrt z (fun m hm=>by
  obtain⟨j,hj,rfl⟩:=Cc hm;rcases z2 j (by omega)with⟨a,_⟩|⟨i,i1,_,i3⟩
  ·omega
  ·omega)
 refine⟨d,e,?_,?_⟩
 ·rw[List.take_zero,List.map_nil,Int.natCast_zero]at h1;rw[h1];unfold JY;rw[Ul ht.sm (by omega),Option.bind_some,if_pos (by rw[show (UN l,ul l 1).1.f0=((uq l 1:Nat):Int)from rfl];omega),show (UN l,ul l 1).1.f0.toNat=uq l 1 from rfl];have y3:Er 20000 (UN l,ul l 1) 20000 (List.replicate (uq l 1) 0) (0:Int)=_:=y3;rw[y3];unfold Jr;have z3:Ec 20000 (UN l,ul l 1) 20000 y (0:Int)=_:=z3;rw[z3];unfold J3;rw[show (UN l,ul l 1).1=UN l from rfl,k1,Option.bind_some]
 ·rcases k2 with⟨k2,_⟩|⟨k2,k3,k4⟩
  ·exact .inl k2
  ·refine .inr ⟨k2,k3,fun w hw=>?_⟩;rw[k4 w hw];exact Vv ht.sm (by omega) z1 z2 w
theorem WA:bA 20000=some true:=by decide+kernel
theorem C6 (a0:(List CN)) (a1:ByteArray) (h0:aX a0) (h1:av a1) (h2:a1.size≤140737488351232):∃ k,F4 k a0 a1=some true:=by
 refine⟨20000,?_⟩;obtain⟨b,b1,b2⟩:=Vo a0;unfold F4;rw[WA,Option.bind_some,if_neg (by decide),b1,Option.bind_some]
 cases b with
 | false=>rfl
 | true=>
 obtain⟨c1,c2⟩:=b2 rfl;rw[if_neg (by simp),Option.bind_some];by_cases q:(20:Int)<(a1.size:Int)
 ·rw[decide_eq_true q];rfl
 obtain⟨a,e,a',e',r1,r2,r3⟩:=N6 a0 (by omega) c2 a0.length 0 20000 20000 [] (by omega) (by omega) (by omega) (fun n=>by
  have e0:(Ay ([]:List (ByteArray×Int)) n).getD (0:Int)=0:=rfl;rw[e0]
  exact⟨by omega,by omega,fun h=>by omega,fun⟨j,j1,_⟩=>by omega⟩)
 have k1:ZD 20000 a0=some (a,e):=by unfold ZD;rw[if_neg (by omega)];exact r1
 have k2:aW 20000 a0=some (a',e'):=by unfold aW;rw[if_neg (by omega)];exact r2
 rw[decide_eq_false q,if_neg (by decide),k2];unfold ZZ;rw[k1,Option.bind_some];by_cases q1:e=0
 ·subst q1;rw[if_neg (by simp)];obtain⟨rfl,rfl⟩:=r3.resolve_left (by omega);obtain⟨l,ht⟩:=Xa (p:=a0) (by omega) (fun i hi=>(c2 _ (P6 a0 hi)).1) r2;obtain⟨d,e2,m1,m2⟩:=VC ht (by omega);rw[m1];rcases m2 with rfl|⟨rfl,hD,hL⟩
  ·rfl
  ·obtain⟨e,kk,v,m,lg,hcv,eq⟩:=of_eq hD hD.right (fun e he=>he.right);generalize hx:Hu (CM (QO e kk) v)=x at eq;have f:KO x e kk v:=⟨m,hcv,hx.symm⟩;have hdr:=f.dr;have hap:=Lz hdr (fun i k hi hk hne=>f.two hi hk hne) (fun q i hi=>f.out hi q);have hw:=Zx a1;have hm:mk x (go x 0 (W a1))=mk d (Xq d 0 (W a1)):=by
    rw[Tl];exact(f.sl.trans lg) (W a1) hw
   have hF:=hL (W a1) hw;rw[←hm]at hF;have hr:aj 20000 a0 a1=some (mk x (go x 0 (W a1))):=by
    have:=Q5 ht (by omega) a1 (by omega) hF a0.length 0 20000 (by omega) (by omega) (fun j _ h=>by omega);exact_mod_cast this
   rw[if_neg (by simp),eq,Option.bind_some,Option.bind_some,Option.bind_some,if_neg (by simp),if_neg (by simp),if_neg (by simp),hdr.rright,Option.bind_some,Option.bind_some,if_neg (by decide),Xo hdr a1 (by omega),Option.bind_some,Oq,Option.bind_some,hr,Option.bind_some,if_neg (by simp)];obtain⟨s,s1,_⟩:=PB x (Nat.le_refl 20000);rw[s1,Option.bind_some]
   cases s with
   | false=>rfl
   | true=>rw[if_neg (by decide),hap,Option.bind_some,if_pos rfl,f.classes,Option.bind_some,Option.bind_some]
 ·rw[if_pos q1,Option.bind_some,Option.bind_some];by_cases q2:e=6
  ·rw[if_pos q2];rfl
  ·obtain⟨rfl,rfl⟩:=r3.resolve_left q2;rw[if_neg q2,if_pos q1,if_pos rfl];rfl
end Go.Avl.T8
