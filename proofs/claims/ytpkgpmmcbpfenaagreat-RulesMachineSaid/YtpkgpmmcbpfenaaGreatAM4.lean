/- Parts: T8D5, T8K2, T8K3, T8K4, T8K5, T8K6, T8K7, T8K8, T8K9, T8K10, T8K11, T8K12, T8K13, T8K14, T8K15, T8K16, T8K17, T8K18, T8K19, T8L1, T8L2, T8L3. -/
import Derived.Test.YtpkgpmmcbpfenaaGreatAM3
import Derived.Test.YtpkgpmmcbpfenaaGreatAF4
import Derived.Test.YtpkgpmmcbpfenaaGreatAM2
import Derived.Test.YtpkgpmmcbpfenaaGreatAv3
import Derived.Test.YtpkgpmmcbpfenaaGreatAF5
import Derived.Test.YtpkgpmmcbpfenaaGreatAF6
import Derived.Test.YtpkgpmmcbpfenaaGreatAF8
namespace Go.Avl.T8
open Go Go.RowKit Go.Proofs Go.Avl
set_option linter.all false
set_option maxRecDepth 10000
def rn (d:AI) (q:Int) (s:ByteArray):Nat→Int
 | 0=>q
 | i+1=>stp d (rn d q s i) (AF s i)
def hs (d:AI) (s:ByteArray):Int:=mk d (rn d 0 s s.size)
theorem B7 {d:AI} (h:Dr d) {q c:Int} (h0:0≤q) (h1:q<(d.f1.length:Int)) (c0:0≤c) (c1:c<256):
 0≤AZ d.f0 c∧AZ d.f0 c<((Bl d q).length:Int)∧stp d q c=AA (Bl d q) (AZ d.f0 c):=by
 obtain⟨b,rfl⟩:=Int.eq_ofNat_of_zero_le c0;have hk:=h.rowk h0 h1;have hb:=h.vb (b:Int);have hl:=SD (v:=d.f0) (b:=b) (by omega);have hlt:AZ d.f0 (b:Int)<((Bl d q).length:Int):=by show _<((AA d.f1 q).length:Int);omega
 refine⟨hb.1,hlt,?_⟩;have hlt':AZ d.f0 (b:Int)<((AA d.f1 q).length:Int):=hlt;unfold stp;rw[if_neg (by omega)]
theorem B2 {d:AI} (h:Dr d) {q c:Int} (hq: -1≤q∧q<(d.f1.length:Int)) (c0:0≤c) (c1:c<256): -1≤stp d q c∧stp d q c<(d.f1.length:Int):=by
 have h1:=h.n1;by_cases a:q= -1
 ·rw[a,Bo];omega
 ·obtain⟨k1,k2,k3⟩:=B7 h (q:=q) (c:=c) (by omega) (by omega) c0 c1;rw[k3];exact h.ent _ (Al (by omega) hq.2) _ (Al k1 k2)
theorem PA {d:AI} (h:Dr d) {q:Int} (hq: -1≤q∧q<(d.f1.length:Int)) (s:ByteArray):∀ i, -1≤rn d q s i∧rn d q s i<(d.f1.length:Int)
 | 0=>hq
 | i+1=>by
   have hu:=Az s i;rw[rn];exact B2 h (PA h hq s i) hu.1 (by omega)
theorem IP {d:AI} (h:Dr d) (q:Int): -1≤mk d q∧mk d q<32768:=by
 unfold mk;split
 ·omega
 ·exact h.mark _ (Al (by omega) (by omega))
theorem Q9 {d:AI} (A:List Bool) {q:Int} (h0:0≤q) (h1:q<(d.f1.length:Int)):Bl (GG d A) q=(Bl d q).map (tr A):=by
 obtain⟨j,rfl⟩:=Int.eq_ofNat_of_zero_le h0;show AA (d.f1.map fun r=>r.map (tr A)) (j:Int)=(AA d.f1 (j:Int)).map (tr A);rw[Ae _ j (by simp;omega),Ae _ j (by omega),List.getElem_map]
theorem Gs {d:AI} (h:Dr d) (A:List Bool):Dr (GG d A):=by
 have hl:(GG d A).f1.length=d.f1.length:=by show (d.f1.map _).length=_;rw[List.length_map]
 have h1:=h.n1;refine⟨by rw[hl];exact h.n1,by rw[hl];exact h.n2,by rw[hl];exact h.ml,h.vb,h.gap,fun r hr=>?_,fun r hr x hx=>?_,h.mark⟩
 ·obtain⟨r',hr',rfl⟩:=List.mem_map.1 (show r∈d.f1.map fun r=>r.map (tr A)from hr);rw[List.length_map];exact h.row r' hr'
 ·obtain⟨r',hr',rfl⟩:=List.mem_map.1 (show r∈d.f1.map fun r=>r.map (tr A)from hr);obtain⟨y,hy,rfl⟩:=List.mem_map.1 hx;have:=h.ent r' hr' y hy;rw[hl];unfold tr;split
  ·omega
  ·exact this
theorem Dm {α β:Type} [Inhabited α] [Inhabited β] (f:α→β) (l:List α) {i:Int} (h0:0≤i) (h1:i<(l.length:Int)):AA (l.map f) i=f (AA l i):=by
 obtain⟨j,rfl⟩:=Int.eq_ofNat_of_zero_le h0;rw[Ae _ j (by simp;omega),Ae _ j (by omega),List.getElem_map]
theorem U6 {d:AI} (h:Dr d) {q c:Int} (h0:0≤q) (h1:q<(d.f1.length:Int)) (c0:0≤c) (c1:c<256) (hn:0≤stp d q c) (k:AL d (stp d q c)):AL d q:=by
 obtain⟨k1,k2,k3⟩:=B7 h h0 h1 c0 c1;obtain⟨r,r1,r2⟩:=k;rw[k3]at hn r1;obtain⟨b,hb⟩:=Int.eq_ofNat_of_zero_le k1;rw[hb]at hn r1 k2;exact⟨r,(DR.step .refl k2 hn).trans r1,r2⟩
theorem Nt {d:AI} (h:Dr d) {A:List Bool} (hA:AS d A) (s:ByteArray):∀ i,rn (GG d A) 0 s i=rn d 0 s i∨(rn (GG d A) 0 s i= -1∧(rn d 0 s i= -1∨¬ AL d (rn d 0 s i)))
 | 0=>.inl rfl
 | i+1=>by
   have hu:=Az s i;have h1:=h.n1;have hr:=PA h (q:=0) (by omega) s i;have hr':=PA h (q:=0) (by omega) s (i+1);have hl:(GG d A).f1.length=d.f1.length:=by show (d.f1.map _).length=_;rw[List.length_map]
   rcases Nt h hA s i with e|⟨e1,e2⟩
   ·by_cases a:rn d 0 s i= -1
    ·left;rw[rn,rn,e,a,Bo,Bo]
    ·obtain⟨k1,k2,k3⟩:=B7 h (q:=rn d 0 s i) (c:=AF s i) (by omega) hr.2 hu.1 (by omega);obtain⟨m1,m2,m3⟩:=B7 (Gs h A) (q:=rn d 0 s i) (c:=AF s i) (by omega) (by rw[hl];exact hr.2) hu.1 (by omega);have hst:stp (GG d A) (rn d 0 s i) (AF s i)=tr A (stp d (rn d 0 s i) (AF s i)):=by
      rw[m3,k3,Q9 A (by omega) hr.2];exact Dm (tr A) _ k1 k2
     have hrg:=B2 h hr hu.1 (c:=AF s i) (by omega);rw[rn,rn,e,hst];unfold tr;split
     ·rename_i c;right;refine⟨rfl,.inr fun k=>?_⟩;have:=(hA.2 _ c.1 hrg.2).2 k;rw[c.2]at this;cases this
     ·exact .inl rfl
   ·right;refine⟨by rw[rn,e1,Bo],?_⟩;rcases e2 with e2|e2
    ·left;rw[rn,e2,Bo]
    ·by_cases a:rn d 0 s i= -1
     ·left;rw[rn,a,Bo]
     ·have hrg:=B2 h hr hu.1 (c:=AF s i) (by omega);by_cases b:stp d (rn d 0 s i) (AF s i)= -1
      ·left;rw[rn,b]
      ·right;rw[rn];intro k;exact e2 (U6 h (by omega) hr.2 hu.1 (by omega) (by omega) k)
theorem TQ {d:AI} (h:Dr d) {A:List Bool} (hA:AS d A) (s:ByteArray):hs (GG d A) s=hs d s:=by
 unfold hs;rcases Nt h hA s s.size with e|⟨e1,e2⟩
 ·rw[e];rfl
 ·rw[e1,DJ];rcases e2 with e2|e2
  ·rw[e2,DJ]
  ·have:=(IP h (rn d 0 s s.size)).1;by_cases a:0≤mk d (rn d 0 s s.size)
   ·exact absurd ⟨_,.refl,a⟩ e2
   ·omega
theorem Gc (d:AI):(Hu d).f1.length=(OL d).length:=by show ((OL d).map _).length=_;rw[List.length_map]
theorem WR {L:List Int} (x:Int): -1≤pl L x∧pl L x<(L.length:Int):=by
 by_cases h:x∈L
 ·obtain⟨j,j1,j2,_⟩:=Dx h;omega
 ·rw[D1 h];omega
theorem G8 {d:AI} (h:Dr d):Dr (Hu d):=by
 have hO:=Gm h;have hl:=Gc d;have hlen:=hO.len;have hn:=h.n2;have hm:=h.ml;obtain⟨m,hm0⟩:=hO.hd;refine⟨by rw[hl,hm0];simp,by rw[hl];omega,by rw[hl];show ((OL d).map _).length=_;rw[List.length_map],h.vb,h.gap,fun r hr=>?_,fun r hr x hx=>?_,fun m hm=>?_⟩
 ·obtain⟨q,hq,rfl⟩:=List.mem_map.1 (show r∈(OL d).map fun q=>(Bl d q).map (pl (OL d))from hr);have:=hO.rng q hq;rw[List.length_map];exact h.rowk this.1 this.2
 ·obtain⟨q,hq,rfl⟩:=List.mem_map.1 (show r∈(OL d).map fun q=>(Bl d q).map (pl (OL d))from hr);obtain⟨y,hy,rfl⟩:=List.mem_map.1 hx;rw[hl];exact WR y
 ·obtain⟨q,hq,rfl⟩:=List.mem_map.1 (show m∈(OL d).map fun q=>AA d.f2 q from hm);have:=hO.rng q hq;exact h.mark _ (Al this.1 (by omega))
theorem Ve {d:AI} {q:Int} (hq:q∈OL d):Bl (Hu d) (pl (OL d) q)=(Bl d q).map (pl (OL d)):=by
 obtain⟨j,j1,j2,j3⟩:=Dx hq;rw[j2];show AA ((OL d).map fun q=>(Bl d q).map (pl (OL d))) (j:Int)=_;rw[Dm _ _ (by omega) (by omega),j3]
theorem T7 {d:AI} (h:Dr d) {q:Int} (hq:q∈OL d):mk (Hu d) (pl (OL d) q)=mk d q:=by
 have hr:=(Gm h).rng q hq;have hm:=h.ml;obtain⟨j,j1,j2,j3⟩:=Dx hq;have hl:=Gc d;have h1:(0:Int)≤(j:Int):=by omega
 rw[N9 (G8 h) (by omega) (by rw[hl];omega),N9 h hr.1 hr.2,j2];show AA ((OL d).map fun q=>AA d.f2 q) (j:Int)=_;rw[Dm _ _ (by omega) (by omega),j3]
theorem La {d:AI} (h:Dr d) {q c:Int} (hq:q∈OL d) (c0:0≤c) (c1:c<256):stp (Hu d) (pl (OL d) q) c=pl (OL d) (stp d q c)∧(stp d q c= -1∨stp d q c∈OL d):=by
 have hO:=Gm h;have hr:=hO.rng q hq;obtain⟨k1,k2,k3⟩:=B7 h hr.1 hr.2 c0 c1;obtain⟨j,j1,j2,j3⟩:=Dx hq;have hl:=Gc d;obtain⟨m1,m2,m3⟩:=B7 (G8 h) (q:=pl (OL d) q) (c:=c) (by omega) (by rw[hl];omega) c0 c1;refine⟨?_,?_⟩
 ·rw[m3,k3,Ve hq];exact Dm (pl (OL d)) _ k1 k2
 ·have hrg:=B2 h (q:=q) (c:=c) (by omega) c0 c1;by_cases a:stp d q c= -1
  ·exact .inl a
  ·right;have:=hO.cls j (by omega) (stp d q c) (by rw[j3,k3];exact Al k1 k2) (by omega);exact this
theorem J0 {d:AI} (h:Dr d):(0:Int)∈OL d∧pl (OL d) 0=0:=by
 obtain⟨m,hm⟩:=(Gm h).hd;rw[hm];exact⟨by simp,rfl⟩
theorem K0 {d:AI} (h:Dr d) (s:ByteArray):∀ i,rn (Hu d) 0 s i=pl (OL d) (rn d 0 s i)∧(rn d 0 s i= -1∨rn d 0 s i∈OL d)
 | 0=>by
   obtain⟨z1,z2⟩:=J0 h;exact⟨z2.symm,.inr z1⟩
 | i+1=>by
   have hu:=Az s i;obtain⟨i1,i2⟩:=K0 h s i;have hneg:pl (OL d) (-1)= -1:=D1 fun k=>by have:=((Gm h).rng _ k).1;omega
   rcases i2 with e|e
   ·rw[rn,rn,i1,e,hneg,Bo,Bo];exact⟨hneg.symm,.inl rfl⟩
   ·rw[rn,rn,i1];exact La h e hu.1 (by omega)
theorem RF {d:AI} (h:Dr d) (s:ByteArray):hs (Hu d) s=hs d s:=by
 unfold hs;obtain⟨i1,i2⟩:=K0 h s s.size;rw[i1];rcases i2 with e|e
 ·have hneg:pl (OL d) (-1)= -1:=D1 fun k=>by have:=((Gm h).rng _ k).1;omega
  rw[e,hneg,DJ,DJ]
 ·exact T7 h e
def R9 (v:Nat):List Int:=[((v / 256:Nat):Int),((v%256:Nat):Int)]
def Ca:List Nat→List Int
 | []=>[]
 | v::l=>R9 v++Ca l
theorem Jp:∀ (l m:List Nat),Ca (l++m)=Ca l++Ca m
 | [],_=>rfl
 | v::l,m=>by show R9 v++Ca (l++m)=(R9 v++Ca l)++Ca m;rw[Jp l m,List.append_assoc]
theorem HY:∀ l:List Nat,(Ca l).length=2*l.length
 | []=>rfl
 | v::l=>by show (R9 v++Ca l).length=_;rw[List.length_append,HY l];simp[R9];omega
theorem F9:∀ {l:List Nat},(∀ v∈l,v<65536)→∀ x∈Ca l,0≤x∧x≤255
 | v::l,h,x,hx=>by
   have hv:=h v (by simp);rcases List.mem_append.1 (show x∈R9 v++Ca l from hx)with hx|hx
   ·simp only[R9,List.mem_cons,List.not_mem_nil,or_false]at hx;rcases hx with rfl|rfl<;>omega
   ·exact F9 (fun w hw=>h w (by simp[hw])) x hx
theorem JV:∀ {l m:List Nat},Ca l=Ca m→l=m
 | [],[],_=>rfl
 | [],v::m,h=>by cases h
 | v::l,[],h=>by cases h
 | v::l,u::m,h=>by
   have h':((v / 256:Nat):Int)::((v%256:Nat):Int)::Ca l=((u / 256:Nat):Int)::((u%256:Nat):Int)::Ca m:=h;obtain⟨h1,h2⟩:=List.cons.inj h';obtain⟨h2,h3⟩:=List.cons.inj h2;rw[JV h3,show v=u by omega]
theorem LP (a b:List Int):strOfNums (a++b)=strOfNums a++strOfNums b:=by
 apply ByteArray.ext;apply Array.ext';simp[strOfNums]
theorem Cm (a:List Int):(strOfNums a).size=a.length:=by simp[strOfNums,ByteArray.size]
theorem Jg {v:Nat} (hv:v<65536):O4 20000 (v:Int)=some (strOfNums (R9 v)):=by
 unfold O4;have e1:w8 (Int.fdiv (v:Int) (2 ^ (min (8:Int).toNat IntKind.i64.bits)))=((v / 256:Nat):Int):=by
  have h1:Int.fdiv (v:Int) (2 ^ (min (8:Int).toNat IntKind.i64.bits))=((v / 256:Nat):Int):=by
   show Int.fdiv (v:Int) 256=_;rw[Int.fdiv_eq_ediv_of_nonneg _ (by decide)];omega
  rw[h1,HW (by omega) (by omega)]
 have e2:w8 (v:Int)=((v%256:Nat):Int):=by
  rw[So];omega
 rw[e1,e2];rfl
def dl (d:AI) (i c:Nat):Nat:=if i<d.f1.length∧0≤AA (AA d.f1 (i:Int)) (c:Int)then(AA (AA d.f1 (i:Int)) (c:Int)).toNat else d.f1.length
def KC (d:AI):Nat:=(EA d.f0).toNat
def KL (d:AI) (f:Nat→Nat) (i:Nat):List Nat:=f i::(List.range (KC d)).map fun c=>f (dl d i c)
def Pn (d:AI) (p:List Int) (f:Nat→Nat):Prop:=p.length=d.f1.length+1∧∀ i:Nat,i≤d.f1.length→AA p (i:Int)=(f i:Int)∧f i<65536
theorem EC {d:AI} (h:Dr d):EA d.f0=(KC d:Int):=by
 have:=Dt h.vb 256;have e:EA d.f0=kc d.f0 256:=rfl;unfold KC;omega
theorem DS {d:AI} (h:Dr d) {i c:Nat} (hc:c<KC d):dl d i c≤d.f1.length:=by
 unfold dl;split
 ·next q=>
  have hr:AA d.f1 (i:Int)∈d.f1:=Al (by omega) (by omega);have hl:=h.row _ hr;have hk:=EC h;have:=h.ent _ hr _ (Al (l:=AA d.f1 (i:Int)) (i:=(c:Int)) (by omega) (by omega));omega
 ·exact Nat.le_refl _
theorem WN {d:AI} (h:Dr d) {p:List Int} {f:Nat→Nat} (hp:Pn d p f) {i:Nat} (hi:i≤d.f1.length):∀ (m c fuel:Nat) (l:List Nat),c+m=KC d→m<fuel→l.length≤2000+c→CW 20000 d p (i:Int) (EA d.f0) fuel (strOfNums (Ca l)) (c:Int)=some (strOfNums (Ca (l++((List.range (KC d)).drop c).map fun c=>f (dl d i c))))
 | 0,c,fu+1,l,hc,_,_=>by
   have hk:=EC h;rw[CW.eq_2,if_neg (by omega),List.drop_of_length_le (by simp;omega),List.map_nil,List.append_nil];rfl
 | m+1,c,fu+1,l,hc,hf,hl=>by
   have hk:=EC h;have hkb:KC d≤256:=by
    have:=Dt h.vb 256;have e:EA d.f0=kc d.f0 256:=rfl;unfold KC;omega
   have hd:=DS h (i:=i) (c:=c) (by omega);obtain⟨g1,g2⟩:=hp.2 _ hd;have hpl:=hp.1;have hn:=h.n2;have hw:=Jg g2;have hc':c<(List.range (KC d)).length:=by simp;omega
   have ih:=WN h hp hi m (c+1) fu (l++[f (dl d i c)]) (by omega) (by omega) (by simp;omega);have go:Gd 20000 (CW 20000 d p (i:Int) (EA d.f0) fu) p (strOfNums (Ca l)) (c:Int) ((dl d i c:Nat):Int)=some (strOfNums (Ca (l++((List.range (KC d)).drop c).map fun c=>f (dl d i c)))):=by
    unfold Gd;rw[if_pos ⟨by omega,by omega⟩,g1,hw,Option.bind_some,if_pos (by rw[Cm,Cm,HY];simp[R9];omega),w6 (by omega) (by omega), ←LP];have e:Ca l++R9 (f (dl d i c))=Ca (l++[f (dl d i c)]):=by rw[Jp];rfl
    rw[e,List.drop_eq_getElem_cons hc',List.map_cons,List.getElem_range];rw[List.append_assoc]at ih;exact_mod_cast ih
   rw[CW.eq_2,if_pos (by omega)];by_cases a:i<d.f1.length
   ·have hr:AA d.f1 (i:Int)∈d.f1:=Al (by omega) (by omega);have hrl:=h.row _ hr;have c1:0≤(i:Int)∧(i:Int)<(d.f1.length:Int):=⟨by omega,by omega⟩;have c2:0≤(c:Int)∧(c:Int)<((AA d.f1 (i:Int)).length:Int):=⟨by omega,by omega⟩;rw[if_pos c1.2,if_pos c1,if_pos c2,Option.bind_some];by_cases b:(0:Int)≤AA (AA d.f1 (i:Int)) (c:Int)
    ·have e:AA (AA d.f1 (i:Int)) (c:Int)=((dl d i c:Nat):Int):=by unfold dl;rw[if_pos ⟨a,b⟩];omega
     rw[if_pos (decide_eq_true b),if_pos c1,if_pos c2,e];exact go
    ·have e:(d.f1.length:Int)=((dl d i c:Nat):Int):=by unfold dl;rw[if_neg (fun q=>b q.2)]
     rw[if_neg (by simpa using b)]
     conv=>lhs;arg 6;rw[e]
     exact go
   ·have e:(d.f1.length:Int)=((dl d i c:Nat):Int):=by unfold dl;rw[if_neg (fun q=>a q.1)]
    rw[if_neg (by omega),Option.bind_some,if_neg (by decide)]
    conv=>lhs;arg 6;rw[e]
    exact go
theorem VN {d:AI} (h:Dr d) {p:List Int} {f:Nat→Nat} (hp:Pn d p f) {i:Nat} (hi:i≤d.f1.length):SU 20000 d p (i:Int)=some (strOfNums (Ca (KL d f i))):=by
 have hpl:=hp.1;obtain⟨g1,g2⟩:=hp.2 i hi;unfold SU;rw[if_pos ⟨by omega,by omega⟩,g1,Jg g2,Option.bind_some,F6 h.vb,Option.bind_some];have hkb:KC d≤256:=by
  have:=Dt h.vb 256;have e:EA d.f0=kc d.f0 256:=rfl;unfold KC;omega
 have:=WN h hp hi (KC d) 0 20000 [f i] (by omega) (by omega) (by simp);rw[Int.natCast_zero,List.drop_zero]at this;exact this
theorem Ks {kk:Nat→ByteArray} {b:Nat} {m:List (ByteArray×Int)} (h:GH kk b m) (q:rc kk b=b):Ay m (kk b)=none∧(m.length:Int)=(ck kk b:Int)∧GH kk (b+1) (BE m (kk b) (ck kk b:Int)):=by
 obtain⟨r1,r2,r3⟩:=A6 kk b;obtain⟨m1,m2,m3⟩:=h;have hn:Ay m (kk b)=none:=m3 _ (fun c hc=>r3 c (by omega));have hc:ck kk b=nc kk b:=by unfold ck;rw[q]
 refine⟨hn,by rw[m1,hc],?_,fun c hc'=>?_,fun s hs=>?_⟩
 ·rw[LI hn,List.length_append,m1,nc,if_pos q];rfl
 ·rw[Dg];by_cases r:c=b
  ·subst r;rw[if_pos rfl]
  ·rw[if_neg (fun h=>r3 c (by omega) h.symm),m2 c (by omega)]
 ·rw[Dg,if_neg (hs b (by omega)),m3 s (fun c hc=>hs c (by omega))]
theorem Hm {kk:Nat→ByteArray} {b:Nat} {m:List (ByteArray×Int)} (h:GH kk b m) (q:rc kk b≠b):Ay m (kk b)=some (ck kk b:Int)∧GH kk (b+1) m:=by
 obtain⟨r1,r2,r3⟩:=A6 kk b;obtain⟨m1,m2,m3⟩:=h;have hg:Ay m (kk b)=some (ck kk b:Int):=by rw[←r2,m2 _ (by omega),C2 kk r2]
 refine⟨hg,by rw[m1,nc,if_neg q];rfl,fun c hc'=>?_,fun s hs=>m3 s (fun c hc=>hs c (by omega))⟩;by_cases r:c=b
 ·subst r;exact hg
 ·exact m2 c (by omega)
theorem Fb (l:List Int) (i q:Int) (x:Int) (h0:0≤i) (h1:i<(l.length:Int)) (hq:0≤q):AA (AU l i x) q=if q=i then x else AA l q:=by
 unfold AA AU;rw[List.getD,List.getD,List.getElem?_set];by_cases e:i.toNat=q.toNat
 ·rw[if_pos e,if_pos (by omega),if_pos (by omega)];rfl
 ·rw[if_neg e,if_neg (by omega)]
def kr (d:AI) (f:Nat→Nat) (i:Nat):ByteArray:=if i≤d.f1.length then strOfNums (Ca (KL d f i))else ByteArray.mk #[]
theorem F8 {d:AI} (h:Dr d) {f:Nat→Nat} (hf:∀ i,i≤d.f1.length→f i<65536) {i j:Nat} (hi:i≤d.f1.length) (hj:j≤d.f1.length):kr d f i=kr d f j↔f i=f j∧∀ c,c<KC d→f (dl d i c)=f (dl d j c):=by
 have rng:∀ i,i≤d.f1.length→∀ v∈KL d f i,v<65536:=by
  intro i hi v hv;rcases List.mem_cons.1 hv with rfl|hv
  ·exact hf i hi
  ·obtain⟨c,hc,rfl⟩:=List.mem_map.1 hv;exact hf _ (DS h (List.mem_range.1 hc))
 unfold kr;rw[if_pos hi,if_pos hj];constructor
 ·intro e;have e:=JV (Cl (F9 (rng i hi)) (F9 (rng j hj)) e);obtain⟨e1,e2⟩:=List.cons.inj e;refine⟨e1,fun c hc=>?_⟩;exact List.map_inj_left.1 e2 c (List.mem_range.2 hc)
 ·rintro⟨e1,e2⟩;have:KL d f i=KL d f j:=by
   unfold KL;rw[e1];congr 1;exact List.map_inj_left.2 fun c hc=>e2 c (List.mem_range.1 hc)
  rw[this]
theorem Mw {d:AI} {f:Nat→Nat} {i j:Nat} (hi:i≤d.f1.length) (hj:¬ j≤d.f1.length):kr d f i≠kr d f j:=by
 unfold kr;rw[if_pos hi,if_neg hj];intro e;have:=congrArg ByteArray.size e;rw[Cm,HY]at this;have z:(ByteArray.mk #[]).size=0:=rfl;rw[z]at this;simp[KL]at this
theorem Qd {d:AI} (h:Dr d) {p:List Int} {f:Nat→Nat} (hp:Pn d p f):∀ (m i fuel:Nat) (mp:List (ByteArray×Int)) (x:List Int),i+m=d.f1.length+1→m<fuel→GH (kr d f) i mp→x.length=d.f1.length+1→(∀ j:Nat,j<i→AA x (j:Int)=(ck (kr d f) j:Int))→
 ∃ x',Dv 20000 d p fuel mp x (i:Int)=some (x',(nc (kr d f) (d.f1.length+1):Int))∧Pn d x' (ck (kr d f))
 | 0,i,fu+1,mp,x,hi,_,hm,hx,hv=>by
   have hn:=h.n2;rw[Dv.eq_2,if_neg (by have:=hp.1;omega)];refine⟨x,?_,hx,fun j hj=>⟨hv j (by omega),by have:=Fl (kr d f) j;omega⟩⟩;rw[MS,hm.1,show i=d.f1.length+1 by omega]
 | m+1,i,fu+1,mp,x,hi,hf,hm,hx,hv=>by
   have hn:=h.n2;have hpl:=hp.1;have hr:=VN h hp (show i≤d.f1.length by omega);have ek:strOfNums (Ca (KL d f i))=kr d f i:=by unfold kr;rw[if_pos (by omega)]
   rw[ek]at hr;have fin:∀ mp',GH (kr d f) (i+1) mp'→∃ x',Hj 20000 (Dv 20000 d p fu) x (i:Int) mp' (ck (kr d f) i:Int)=some (x',(nc (kr d f) (d.f1.length+1):Int))∧Pn d x' (ck (kr d f)):=by
    intro mp' hm';unfold Hj;rw[if_pos ⟨by omega,by omega⟩,w6 (by omega) (by omega)]
    have:=Qd h hp m (i+1) fu mp' (AU x (i:Int) (ck (kr d f) i:Int)) (by omega) (by omega) hm' (by rw[Au,hx]) (fun j hj=>by
     rw[Fb _ _ _ _ (by omega) (by omega) (by omega)];by_cases q:j=i
     ·subst q;rw[if_pos rfl]
     ·rw[if_neg (by omega)];exact hv j (by omega))
    exact_mod_cast this
   rw[Dv.eq_2,if_pos (by omega),hr,Option.bind_some];by_cases q:rc (kr d f) i=i
   ·obtain⟨k1,k2,k3⟩:=Ks hm q;rw[k1,if_pos (by rfl),k2];exact fin _ k3
   ·obtain⟨k1,k2⟩:=Hm hm q;rw[k1,if_neg (by simp)];exact fin _ k2
theorem Nx {d:AI} (h:Dr d) {p:List Int} {f:Nat→Nat} (hp:Pn d p f):∃ x,Yk 20000 d p=some (x,(nc (kr d f) (d.f1.length+1):Int))∧Pn d x (ck (kr d f)):=by
 have hn:=h.n2;have hpl:=hp.1;unfold Yk;rw[if_pos ⟨by omega,by omega,by omega⟩];have:=Qd h hp (d.f1.length+1) 0 20000 [] (List.replicate (p.length:Int).toNat 0) (by omega) (by omega) ⟨rfl,fun c hc=>by omega,fun s _=>rfl⟩ (by simp[hpl]) (fun j hj=>by omega);rw[Int.natCast_zero]at this;exact this
def f0 (d:AI) (i:Nat):Nat:=(mk d (i:Int)+1).toNat
theorem RB {d:AI} (h:Dr d) (i:Nat):f0 d i<65536:=by have:=IP h (i:Int);unfold f0;omega
theorem LC {d:AI} (h:Dr d):∀ (m i fuel:Nat) (x:List Int),i+m=d.f1.length→m<fuel→x.length=d.f1.length+1→(∀ j:Nat,j<i→AA x (j:Int)=(f0 d j:Int))→(∀ j:Nat,i≤j→AA x (j:Int)=0)→∃ x',DY 20000 d fuel x (i:Int)=some x'∧Pn d x' (f0 d)
 | 0,i,fu+1,x,hi,_,hx,h1,h2=>by
   have hm:=h.ml;rw[DY.eq_2,if_neg (by omega)];refine⟨x,rfl,hx,fun j hj=>⟨?_,RB h j⟩⟩;by_cases q:j<i
   ·exact h1 j q
   ·rw[h2 j (by omega)];have:mk d (j:Int)= -1:=by unfold mk;rw[if_pos (.inr (by omega))]
    unfold f0;rw[this];rfl
 | m+1,i,fu+1,x,hi,hf,hx,h1,h2=>by
   have hn:=h.n2;have hm:=h.ml;have hmk:=IP h (i:Int);have em:mk d (i:Int)=AA d.f2 (i:Int):=N9 h (by omega) (by omega);have e:AG (AA d.f2 (i:Int)+1)=(f0 d i:Int):=by rw[←em,w6 (by omega) (by omega)];unfold f0;omega
   rw[DY.eq_2,if_pos (by omega),if_pos ⟨by omega,by omega⟩,if_pos ⟨by omega,by omega⟩,e,w6 (by omega) (by omega)]
   have:=LC h m (i+1) fu (AU x (i:Int) (f0 d i:Int)) (by omega) (by omega) (by rw[Au,hx]) (fun j hj=>by
    rw[Fb _ _ _ _ (by omega) (by omega) (by omega)];by_cases q:j=i
    ·subst q;rw[if_pos rfl]
    ·rw[if_neg (by omega)];exact h1 j (by omega)) (fun j hj=>by
    rw[Fb _ _ _ _ (by omega) (by omega) (by omega),if_neg (by omega)];exact h2 j (by omega))
   exact_mod_cast this
theorem Pk {d:AI} (h:Dr d):∃ x,S7 20000 d=some x∧Pn d x (f0 d):=by
 have hn:=h.n2;have e:AG ((d.f1.length:Int)+1)=((d.f1.length+1:Nat):Int):=by rw[w6 (by omega) (by omega)];omega
 unfold S7;rw[e,if_pos ⟨by omega,by omega,by omega⟩,Int.toNat_natCast]
 have:=LC h d.f1.length 0 20000 (List.replicate (d.f1.length+1) 0) (by omega) (by omega) (by simp) (fun j hj=>by omega) (fun j _=>by
  unfold AA
  rw[List.getD,List.getElem?_replicate];split<;>rfl)
 rw[Int.natCast_zero]at this;exact this
def cn (d:AI) (E:Nat→Nat→Prop):Prop:=∀ i j,i≤d.f1.length→j≤d.f1.length→E i j→f0 d i=f0 d j∧∀ c,c<KC d→E (dl d i c) (dl d j c)
structure KN (d:AI) (kk:Nat→ByteArray):Prop where
 mark:∀ i j,i≤d.f1.length→j≤d.f1.length→kk i=kk j→f0 d i=f0 d j
 bis:∀ E,cn d E→∀ i j,i≤d.f1.length→j≤d.f1.length→E i j→kk i=kk j
 out:∀ i j,i≤d.f1.length→¬ j≤d.f1.length→kk i≠kk j
 outs:∀ i j,¬ i≤d.f1.length→¬ j≤d.f1.length→kk i=kk j
def Oj (d:AI) (kk:Nat→ByteArray):Prop:=∀ i j,i≤d.f1.length→j≤d.f1.length→kk i=kk j→∀ c,c<KC d→kk (dl d i c)=kk (dl d j c)
theorem ZJ {d:AI} (h:Dr d):KN d (kr d (f0 d)):=by
 refine⟨fun i j hi hj e=>((F8 h (fun i _=>RB h i) hi hj).1 e).1,fun E hE i j hi hj e=>?_,fun i j hi hj=>Mw hi hj,fun i j hi hj=>by unfold kr;rw[if_neg hi,if_neg hj]⟩;obtain⟨e1,e2⟩:=hE i j hi hj e;exact(F8 h (fun i _=>RB h i) hi hj).2 ⟨e1,fun c hc=>(hE _ _ (DS h hc) (DS h hc) (e2 c hc)).1⟩
theorem Iz {d:AI} (h:Dr d) (kk:Nat→ByteArray):∀ i,i≤d.f1.length→ck kk i<65536:=fun i hi=>by have:=Fl kk i;have:=h.n2;omega
theorem UM {d:AI} (h:Dr d) {kk:Nat→ByteArray} (k:KN d kk):KN d (kr d (ck kk))∧(∀ i j,kr d (ck kk) i=kr d (ck kk) j→kk i=kk j):=by
 have hf:=Iz h kk;have fine:∀ i j,kr d (ck kk) i=kr d (ck kk) j→kk i=kk j:=by
  intro i j e;by_cases hi:i≤d.f1.length
  ·by_cases hj:j≤d.f1.length
   ·exact JE.1 ((F8 h hf hi hj).1 e).1
   ·exact absurd e (Mw hi hj)
  ·by_cases hj:j≤d.f1.length
   ·exact absurd e.symm (Mw hj hi)
   ·exact k.outs i j hi hj
 refine⟨⟨fun i j hi hj e=>k.mark i j hi hj (fine i j e),fun E hE i j hi hj e=>?_,fun i j hi hj=>Mw hi hj,fun i j hi hj=>by unfold kr;rw[if_neg hi,if_neg hj]⟩,fine⟩;obtain⟨e1,e2⟩:=hE i j hi hj e;exact(F8 h hf hi hj).2 ⟨JE.2 (k.bis E hE i j hi hj e),fun c hc=>JE.2 (k.bis E hE _ _ (DS h hc) (DS h hc) (e2 c hc))⟩
theorem br {d:AI} (h:Dr d) {kk:Nat→ByteArray} (k:KN d kk) (e:nc kk (d.f1.length+1)=nc (kr d (ck kk)) (d.f1.length+1)):Oj d (kr d (ck kk)):=by
 have hf:=Iz h kk;have fine:=(UM h k).2;intro i j hi hj q c hc;have:=((F8 h hf hi hj).1 q).2 c hc;have hd1:=DS h (i:=i) hc;have hd2:=DS h (i:=j) hc;exact Ki fine e (by omega) (by omega) (JE.1 this)
theorem LO {d:AI} (h:Dr d):∀ (fuel:Nat) (kk:Nat→ByteArray) (x:List Int),KN d kk→Pn d x (ck kk)→d.f1.length+1-nc kk (d.f1.length+1)<fuel→∃ kk' x',KN d kk'∧Oj d kk'∧Pn d x' (ck kk')∧E8 20000 d fuel x (nc kk (d.f1.length+1):Int)=some (EB x' 0 (d.f1.length:Int))
 | 0,_,_,_,_,hf=>by omega
 | fu+1,kk,x,k,hx,hf=>by
   obtain⟨x',s1,s2⟩:=Nx h hx;obtain⟨k1,k2⟩:=UM h k;have hle:=IY k2 (d.f1.length+1);have hmax:=Fv (kr d (ck kk)) (d.f1.length+1);rw[E8.eq_2,s1,Option.bind_some];by_cases e:nc kk (d.f1.length+1)=nc (kr d (ck kk)) (d.f1.length+1)
   ·refine⟨_,x',k1,br h k e,s2,?_⟩;have hl:=s2.1;show (if((nc (kr d (ck kk)) (d.f1.length+1):Nat):Int)=(nc kk (d.f1.length+1):Int)then if 0≤(0:Int)∧(0:Int)≤(d.f1.length:Int)∧(d.f1.length:Int)≤(x'.length:Int)then some (EB x' 0 (d.f1.length:Int))else none else _)=_;rw[if_pos (by omega),if_pos ⟨by omega,by omega,by omega⟩]
   ·have ih:=LO h fu (kr d (ck kk)) x' k1 s2 (by omega);show ∃ kk' x'',KN d kk'∧Oj d kk'∧Pn d x'' (ck kk')∧(if((nc (kr d (ck kk)) (d.f1.length+1):Nat):Int)=(nc kk (d.f1.length+1):Int)then _ else E8 20000 d fu x' (nc (kr d (ck kk)) (d.f1.length+1):Int))=_;rw[if_neg (by omega)];exact ih
theorem Rc {d:AI} (h:Dr d) (hr:R6 20000 d=some true):∃ kk x,KN d kk∧Oj d kk∧Pn d x (ck kk)∧Y8 20000 d=some (EB x 0 (d.f1.length:Int)):=by
 have hn:=h.n2;obtain⟨x0,a1,a2⟩:=Pk h;obtain⟨x1,b1,b2⟩:=Nx h a2;obtain⟨kk,x,c1,c2,c3,c4⟩:=LO h 20000 (kr d (f0 d)) x1 (ZJ h) b2 (by omega);refine⟨kk,x,c1,c2,c3,?_⟩;unfold Y8;rw[hr,Option.bind_some,if_neg (by decide),a1,Option.bind_some,b1,Option.bind_some];exact c4
def Fu (kk:Nat→ByteArray) (x:Int):Int:=if 0≤x then(ck kk x.toNat:Int)else x
def QO (e:AI) (kk:Nat→ByteArray):AI:=AI.mk e.f0 ((Fo kk e.f1.length 0).map fun i:Nat=>(AA e.f1 (i:Int)).map (Fu kk)) ((Fo kk e.f1.length 0).map fun i:Nat=>AA e.f2 (i:Int))
theorem Y4 (x:List Int) (n:Nat):EB x 0 (n:Int)=x.take n:=by
 unfold EB;simp
theorem Nb {x:List Int} {n i:Nat} (h:i<n):AA (x.take n) (i:Int)=AA x (i:Int):=by
 unfold AA;rw[Int.toNat_natCast,List.getD,List.getD,List.getElem?_take,if_pos h]
theorem W3 {e:AI} (h:Dr e) (rec21:List (List Int)→List Int→Int→Option (AI×Int)) {kk:Nat→ByteArray} {x:List Int} (hx:Pn e x (ck kk)) (R:List (List Int)) (K:List Int) (i:Nat) (hi:i<e.f1.length):∀ (m c fuel:Nat) (a:List Int),c+m=(AA e.f1 (i:Int)).length→m<fuel→a.length≤c→
 Dl 20000 rec21 e (x.take e.f1.length) R K (i:Int) fuel a (c:Int)=IE 20000 rec21 e R K (i:Int) (a++((AA e.f1 (i:Int)).drop c).map (Fu kk))
 | 0,c,fu+1,a,hc,_,_=>by
   rw[Dl.eq_2,if_neg (by omega),List.drop_of_length_le (by omega),List.map_nil,List.append_nil]
 | m+1,c,fu+1,a,hc,hf,ha=>by
   have hr:AA e.f1 (i:Int)∈e.f1:=Al (by omega) (by omega);have hl:=h.row256 _ hr;have hc':c<(AA e.f1 (i:Int)).length:=by omega
   have hxl:=hx.1;have ent:=h.ent _ hr _ (Al (l:=AA e.f1 (i:Int)) (i:=(c:Int)) (by omega) (by omega));have ih:=W3 h rec21 hx R K i hi m (c+1) fu (a++[Fu kk (AA (AA e.f1 (i:Int)) (c:Int))]) (by omega) (by omega) (by simp;omega);rw[List.append_assoc]at ih;have ed:(AA e.f1 (i:Int)).drop c=AA (AA e.f1 (i:Int)) (c:Int)::(AA e.f1 (i:Int)).drop (c+1):=by
    rw[List.drop_eq_getElem_cons hc',Lc _ c hc']
   have fin:IA 20000 (Dl 20000 rec21 e (x.take e.f1.length) R K (i:Int) fu) a (c:Int) (Fu kk (AA (AA e.f1 (i:Int)) (c:Int)))=IE 20000 rec21 e R K (i:Int) (a++((AA e.f1 (i:Int)).drop c).map (Fu kk)):=by
    unfold IA;rw[if_pos (by simp;omega),w6 (by omega) (by omega),ed,List.map_cons];exact_mod_cast ih
   rw[Dl.eq_2,if_pos (by omega),if_pos ⟨by omega,by omega⟩];by_cases b:(0:Int)≤AA (AA e.f1 (i:Int)) (c:Int)
   ·have hlen:(x.take e.f1.length).length=e.f1.length:=by rw[List.length_take];omega
    have hb:AA (x.take e.f1.length) (AA (AA e.f1 (i:Int)) (c:Int))=Fu kk (AA (AA e.f1 (i:Int)) (c:Int)):=by
     obtain⟨t,ht⟩:∃ t:Nat,AA (AA e.f1 (i:Int)) (c:Int)=(t:Int):=⟨(AA (AA e.f1 (i:Int)) (c:Int)).toNat,by omega⟩;rw[ht]at ent⊢
     unfold Fu;rw[if_pos (by omega),Int.toNat_natCast,Nb (by omega),(hx.2 t (by omega)).1]
    rw[if_pos b,if_pos ⟨b,by rw[hlen];exact ent.2⟩,hb];exact fin
   ·have hb:AA (AA e.f1 (i:Int)) (c:Int)=Fu kk (AA (AA e.f1 (i:Int)) (c:Int)):=by unfold Fu;rw[if_neg b]
    rw[if_neg b]
    conv=>lhs;arg 5;rw[hb]
    exact fin
theorem Th {e:AI} (h:Dr e) {kk:Nat→ByteArray} {x:List Int} (hx:Pn e x (ck kk)):∀ (m i fuel:Nat) (R:List (List Int)) (K:List Int),i+m=e.f1.length→m<fuel→R.length=nc kk i→K.length≤i→
 Dp 20000 e (x.take e.f1.length) fuel R K (i:Int)=Mv 20000 e (R++(Fo kk m i).map fun i:Nat=>(AA e.f1 (i:Int)).map (Fu kk)) (K++(Fo kk m i).map fun i:Nat=>AA e.f2 (i:Int))
 | 0,i,fu+1,R,K,hi,_,_,_=>by
   rw[Dp.eq_2,if_neg (by omega),Fo,List.map_nil,List.map_nil,List.append_nil,List.append_nil]
 | m+1,i,fu+1,R,K,hi,hf,hR,hK=>by
   have hn:=h.n2;have hml:=h.ml;have hi':i<e.f1.length:=by omega
   have hxl:=hx.1;have hlen:(x.take e.f1.length).length=e.f1.length:=by rw[List.length_take];omega
   have hb:AA (x.take e.f1.length) (i:Int)=(ck kk i:Int):=by rw[Nb hi',(hx.2 i (by omega)).1]
   have hnl:=Fv kk i;rw[Dp.eq_2,if_pos (by omega),if_pos ⟨by omega,by omega⟩,hb,Fo];by_cases q:rc kk i=i
   ·have hc:ck kk i=nc kk i:=by unfold ck;rw[q]
    have hr:AA e.f1 (i:Int)∈e.f1:=Al (by omega) (by omega);have l4:=W3 h (Dp 20000 e (x.take e.f1.length) fu) hx R K i hi' (AA e.f1 (i:Int)).length 0 20000 [] (by omega) (by have:=h.row256 _ hr;omega) (by simp);rw[Int.natCast_zero,List.drop_zero,List.nil_append]at l4;have ih:=Th h hx m (i+1) fu (R++[(AA e.f1 (i:Int)).map (Fu kk)]) (K++[AA e.f2 (i:Int)]) (by omega) (by omega) (by rw[List.length_append,hR,nc,if_pos q];rfl) (by simp;omega);rw[List.append_assoc,List.append_assoc]at ih;rw[if_neg (by omega),if_pos ⟨by omega,by omega⟩,l4,if_pos q];unfold IE Hr;rw[if_pos (by simp;omega),if_pos ⟨by omega,by omega⟩,if_pos (by simp;omega),w6 (by omega) (by omega)];exact_mod_cast ih
   ·have hr:rc kk i<i:=by have:=(A6 kk i).1;omega
    have hc:ck kk i<nc kk i:=by unfold ck;exact Mc (Fk kk i) hr
    have ih:=Th h hx m (i+1) fu R K (by omega) (by omega) (by rw[hR,nc,if_neg q];rfl) (by omega);rw[if_pos (by omega),if_neg q];unfold Hr;rw[w6 (by omega) (by omega)];exact_mod_cast ih
theorem Xg {d:AI} (h:Dr d) (hr:R6 20000 d=some true) (hrr:∀ e,Dr e→R6 20000 e=some true):∃ A kk,AS d A∧KN (Hu (GG d A)) kk∧Oj (Hu (GG d A)) kk∧Xh 20000 d=(Ye 20000 (QO (Hu (GG d A)) kk)).bind fun t14=>(XK 20000 t14).bind fun t15=>some (t15,0):=by
 obtain⟨A,hA,t1⟩:=V0 h;have hT:=Gs h A;have hE:=G8 hT;obtain⟨kk,x,c1,c2,c3,c4⟩:=Rc hE (hrr _ hE);refine⟨A,kk,hA,c1,c2,?_⟩;unfold Xh;rw[hr,Option.bind_some,if_neg (by decide),t1,Option.bind_some,Np hT,Option.bind_some,c4,Option.bind_some,Y4];have:=Th hE c3 (Hu (GG d A)).f1.length 0 20000 [] [] (by omega) (by have:=hE.n2;omega) rfl (by simp);rw[Int.natCast_zero,List.nil_append,List.nil_append]at this;exact this
def cls (d:AI) (b:Nat):Nat:=(AZ d.f0 (b:Int)).toNat
def ZP (d:AI) (c:Nat):List Nat:=d.f1.map fun r=>(AA r (c:Int)+1).toNat
def kcol (d:AI) (b:Nat):ByteArray:=strOfNums (Ca (ZP d (cls d b)))
theorem DB {d:AI} (h:Dr d) {b:Nat} (hb:b<256):AZ d.f0 (b:Int)=(cls d b:Int)∧cls d b<KC d:=by
 have h1:=h.vb (b:Int);have h2:=T1 (v:=d.f0) 256 b hb;have e:EA d.f0=kc d.f0 256:=rfl;have hk:=EC h;unfold cls;exact⟨by omega,by omega⟩
theorem XF {d:AI} (h:Dr d) {c:Nat} (hc:c<KC d):∀ (m i fuel:Nat) (l:List Nat),i+m=d.f1.length→m<fuel→l.length≤i→Dd 20000 d (c:Int) fuel (strOfNums (Ca l)) (i:Int)=some (strOfNums (Ca (l++(d.f1.drop i).map fun r=>(AA r (c:Int)+1).toNat)))
 | 0,i,fu+1,l,hi,_,_=>by
   rw[Dd.eq_2,if_neg (by omega),List.drop_of_length_le (by omega),List.map_nil,List.append_nil];rfl
 | m+1,i,fu+1,l,hi,hf,hl=>by
   have hi':i<d.f1.length:=by omega
   have hn:=h.n2;have hk:=EC h;have hr:d.f1[i]∈d.f1:=List.getElem_mem hi';have hrl:=h.row _ hr;have ent:=h.ent _ hr _ (Al (l:=d.f1[i]) (i:=(c:Int)) (by omega) (by omega));have hv:(AA d.f1[i] (c:Int)+1).toNat<65536:=by omega
   have e:AG (AA d.f1[i] (c:Int)+1)=(((AA d.f1[i] (c:Int)+1).toNat:Nat):Int):=by rw[w6 (by omega) (by omega)];omega
   have ih:=XF h hc m (i+1) fu (l++[(AA d.f1[i] (c:Int)+1).toNat]) (by omega) (by omega) (by simp;omega);have e2:Ca l++R9 (AA d.f1[i] (c:Int)+1).toNat=Ca (l++[(AA d.f1[i] (c:Int)+1).toNat]):=by rw[Jp];rfl
   have eg:AA d.f1 (i:Int)=d.f1[i]:=Ae _ i hi';rw[Dd.eq_2,if_pos (by omega),if_pos ⟨by omega,by omega⟩,eg,if_pos ⟨by omega,by omega⟩,e,Jg hv,Option.bind_some,if_pos (by rw[Cm,Cm,HY];simp[R9];omega),w6 (by omega) (by omega), ←LP,e2,List.drop_eq_getElem_cons hi',List.map_cons];rw[List.append_assoc]at ih;exact_mod_cast ih
theorem Yf {d:AI} (h:Dr d) {b:Nat} (hb:b<256):V8 20000 d (cls d b:Int)=some (kcol d b):=by
 have:=XF h (DB h hb).2 d.f1.length 0 20000 [] (by omega) (by have:=h.n2;omega) (by simp);rw[Int.natCast_zero,List.drop_zero,List.nil_append]at this;exact this
structure CI (d:AI) (b:Nat) (v:Vector Int 256) (mp:List (ByteArray×Int)) (kept of:List Int) (done:List Bool):Prop where
 mp:GH (kcol d) b mp
 kl:kept.length=nc (kcol d) b
 ol:of.length=KC d
 dl:done.length=KC d
 dn:∀ x:Nat,x<KC d→(AA done (x:Int)=true↔∃ c,c<b∧cls d c=x)
 of:∀ c,c<b→AA of (cls d c:Int)=(ck (kcol d) c:Int)
 v:∀ c,c<b→AZ v (c:Int)=(ck (kcol d) c:Int)
theorem I4 {d:AI} {b c:Nat} (h:cls d b=cls d c):kcol d b=kcol d c:=by unfold kcol;rw[h]
theorem IM {d:AI} (h:Dr d):KC d≤256:=by
 have:=Dt h.vb 256;have e:EA d.f0=kc d.f0 256:=rfl;unfold KC;omega
theorem WU {d:AI} (h:Dr d):∀ (m b fuel:Nat) (v:Vector Int 256) (mp:List (ByteArray×Int)) (kept of:List Int) (done:List Bool),b+m=256→m<fuel→CI d b v mp kept of done→
 ∃ v',Cp 20000 d fuel v mp kept of done (b:Int)=Gr 20000 d v' (kept++(Fo (kcol d) m b).map fun r=>(cls d r:Int))∧∀ c:Nat,c<256→AZ v' (c:Int)=(ck (kcol d) c:Int)
 | 0,b,fu+1,v,mp,kept,of,done,hb,_,hi=>by
   refine⟨v,?_,fun c hc=>hi.v c (by omega)⟩;rw[Cp.eq_2,if_neg (by omega),Fo,List.map_nil,List.append_nil]
 | m+1,b,fu+1,v,mp,kept,of,done,hb,hf,hi=>by
   have hb':b<256:=by omega
   have hn:=h.n2;have hK:=IM h;obtain⟨e1,e2⟩:=DB h hb';have hck:=Fl (kcol d) b;have hnl:=Fv (kcol d) b;have ew:AG (AZ d.f0 (b:Int))=(cls d b:Int):=by rw[e1,w6 (by omega) (by omega)]
   have g1:0≤(b:Int)∧(b:Int)<256:=⟨by omega,by omega⟩;have hol:=hi.ol;have hdl:=hi.dl;have fin:∀ (mp':List (ByteArray×Int)) (kept' of':List Int) (done':List Bool),GH (kcol d) (b+1) mp'→kept'=kept++(if rc (kcol d) b=b then [(cls d b:Int)]else [])→of'.length=KC d→done'.length=KC d→(∀ x:Nat,x<KC d→(AA done' (x:Int)=true↔∃ c,c<b+1∧cls d c=x))→(∀ c,c<b+1→AA of' (cls d c:Int)=(ck (kcol d) c:Int))→
    ∃ v',Hv 20000 (Cp 20000 d fu) d v (b:Int) mp' kept' of' done'=Gr 20000 d v' (kept++(Fo (kcol d) (m+1) b).map fun r=>(cls d r:Int))∧∀ c:Nat,c<256→AZ v' (c:Int)=(ck (kcol d) c:Int):=by
    intro mp' kept' of' done' k1 k2 k3 k4 k5 k6;unfold Hv;rw[ew,if_pos ⟨by omega,by omega⟩,if_pos g1,k6 b (by omega),HW (by omega) (by omega),w6 (by omega) (by omega)]
    have:=WU h m (b+1) fu (BP v (b:Int) (ck (kcol d) b:Int)) mp' kept' of' done' (by omega) (by omega) ⟨k1,by rw[k2,List.length_append,hi.kl,nc];split<;>rfl,k3,k4,k5,k6,fun c hc=>by
     rw[Hc _ _ _ _ hb' (by omega)];by_cases q:c=b
     ·subst q;rw[if_pos rfl]
     ·rw[if_neg q];exact hi.v c (by omega)⟩
    obtain⟨v',t1,t2⟩:=this;refine⟨v',?_,t2⟩;have ek:kept'++(Fo (kcol d) m (b+1)).map (fun r=>(cls d r:Int))=kept++(Fo (kcol d) (m+1) b).map fun r=>(cls d r:Int):=by
     rw[k2,Fo];by_cases q:rc (kcol d) b=b
     ·rw[if_pos q,if_pos q,List.append_assoc];rfl
     ·rw[if_neg q,if_neg q,List.append_nil]
    rw[←ek];exact_mod_cast t1
   rw[Cp.eq_2,if_pos g1.2,if_pos g1,ew,if_pos ⟨by omega,by omega⟩];by_cases dn:∃ c,c<b∧cls d c=cls d b
   ·have hd:=(hi.dn _ e2).2 dn;obtain⟨c0,c1,c2⟩:=dn;have hne:rc (kcol d) b≠b:=by
     intro q;exact(A6 (kcol d) b).2.2 c0 (by rw[q];exact c1) (I4 c2)
    obtain⟨_,k2⟩:=Hm hi.mp hne;rw[hd,if_neg (by decide)];refine fin mp kept of done k2 (by rw[if_neg hne,List.append_nil]) hol hdl (fun x hx=>?_) (fun c hc=>?_)
    ·rw[hi.dn x hx];constructor
     ·rintro⟨c,k,r⟩;exact⟨c,by omega,r⟩
     ·rintro⟨c,k,r⟩;by_cases q:c=b
      ·subst q;exact⟨c0,c1,by rw[c2,r]⟩
      ·exact⟨c,by omega,r⟩
    ·by_cases q:c=b
     ·subst q;rw[←c2,hi.of c0 c1];exact congrArg _ (C2 _ (I4 c2))
     ·exact hi.of c (by omega)
   ·have hd:AA done (cls d b:Int)=false:=by
     cases k:AA done (cls d b:Int)with
     | false=>rfl
     | true=>exact absurd ((hi.dn _ e2).1 k) dn
    have fin7:∀ (mp':List (ByteArray×Int)) (kept':List Int),GH (kcol d) (b+1) mp'→kept'=kept++(if rc (kcol d) b=b then [(cls d b:Int)]else [])→
     ∃ v',IG 20000 (Cp 20000 d fu) d v of done (b:Int) mp' kept' (ck (kcol d) b:Int)=Gr 20000 d v' (kept++(Fo (kcol d) (m+1) b).map fun r=>(cls d r:Int))∧∀ c:Nat,c<256→AZ v' (c:Int)=(ck (kcol d) c:Int):=by
     intro mp' kept' k1 k2;unfold IG;rw[ew,if_pos ⟨by omega,by omega⟩,if_pos ⟨by omega,by omega⟩];refine fin mp' kept' _ _ k1 k2 (by rw[Au,hol]) (by rw[Au,hdl]) (fun x hx=>?_) (fun c hc=>?_)
     ·rw[CJ _ _ _ _ (by omega) (by omega) (by omega)];by_cases q:(x:Int)=(cls d b:Int)
      ·rw[if_pos q];exact⟨fun _=>⟨b,by omega,by omega⟩,fun _=>rfl⟩
      ·rw[if_neg q,hi.dn x hx];constructor
       ·rintro⟨c,k,r⟩;exact⟨c,by omega,r⟩
       ·rintro⟨c,k,r⟩;by_cases q2:c=b
        ·subst q2;exact absurd (by omega) q
        ·exact⟨c,by omega,r⟩
     ·rw[Fb _ _ _ _ (by omega) (by omega) (by omega)];by_cases q:(cls d c:Int)=(cls d b:Int)
      ·rw[if_pos q];exact congrArg _ (C2 _ (I4 (by omega)))
      ·rw[if_neg q]
       exact hi.of c (by
        have:c≠b:=fun e=>q (by rw[e])
        omega)
    rw[hd,if_pos (by decide),Yf h hb',Option.bind_some];by_cases q:rc (kcol d) b=b
    ·obtain⟨k1,k2,k3⟩:=Ks hi.mp q;have hc:ck (kcol d) b=nc (kcol d) b:=by unfold ck;rw[q]
     have e4:(kept.length:Int)=(ck (kcol d) b:Int):=by rw[hi.kl,hc]
     rw[k1,if_pos (by rfl),if_pos (by have:=hi.kl;simp;omega),e4];exact fin7 _ _ k3 (by rw[if_pos q])
    ·obtain⟨k1,k2⟩:=Hm hi.mp q;rw[k1,if_neg (by simp)];exact fin7 _ _ k2 (by rw[if_neg q,List.append_nil])
def KB (d:AI):List Int:=(Fo (kcol d) 256 0).map fun r:Nat=>(cls d r:Int)
theorem T2 {d:AI} (h:Dr d) {c:Int} (hc:c∈KB d):0≤c∧c<EA d.f0:=by
 obtain⟨r,hr,rfl⟩:=List.mem_map.1 hc;have:=FX (kcol d) 256 0 r hr;have:=(DB h (b:=r) (by omega)).2;have:=EC h;omega
theorem Sp (d:AI):(KB d).length≤256:=by
 unfold KB;rw[List.length_map];have:=GS (kcol d) 256 0;have:=Fv (kcol d) (0+256);omega
theorem Wu {d:AI} (h:Dr d) (rec19:List (List Int)→Int→Option AI) (R:List (List Int)) (i:Nat) (hi:i<d.f1.length) (hR:R.length≤10000):∀ (m j fuel:Nat) (a:List Int),j+m=(KB d).length→m<fuel→a.length≤j→
 Fd 20000 rec19 d (KB d) R (i:Int) fuel a (j:Int)=rec19 (R++[a++((KB d).drop j).map fun c=>AA (AA d.f1 (i:Int)) c]) ((i+1:Nat):Int)
 | 0,j,fu+1,a,hj,_,_=>by
   have hn:=h.n2;rw[Fd.eq_2,if_neg (by omega),List.drop_of_length_le (by omega),List.map_nil,List.append_nil];unfold MZ L4;rw[if_pos (by simp;omega),w6 (by omega) (by omega)];rfl
 | m+1,j,fu+1,a,hj,hf,ha=>by
   have hn:=h.n2;have hl:=Sp d;have hj':j<(KB d).length:=by omega
   have hc:=T2 h (List.getElem_mem hj');have hr:=h.row _ (Al (l:=d.f1) (i:=(i:Int)) (by omega) (by omega));have ih:=Wu h rec19 R i hi hR m (j+1) fu (a++[AA (AA d.f1 (i:Int)) (KB d)[j]]) (by omega) (by omega) (by simp;omega);rw[List.append_assoc]at ih;rw[Fd.eq_2,if_pos (by omega),if_pos ⟨by omega,by omega⟩,Lc _ j hj',if_pos ⟨hc.1,by omega⟩,if_pos (by simp;omega),w6 (by omega) (by omega),List.drop_eq_getElem_cons hj',List.map_cons];exact_mod_cast ih
theorem WO {d:AI} (h:Dr d) (v:Vector Int 256):∀ (m i fuel:Nat) (R:List (List Int)),i+m=d.f1.length→m<fuel→R.length≤i→
 EP 20000 d v (KB d) fuel R (i:Int)=some (AI.mk v (R++(d.f1.drop i).map fun r=>(KB d).map fun c=>AA r c) d.f2)
 | 0,i,fu+1,R,hi,_,_=>by
   rw[EP.eq_2,if_neg (by omega),List.drop_of_length_le (by omega),List.map_nil,List.append_nil];rfl
 | m+1,i,fu+1,R,hi,hf,hR=>by
   have hn:=h.n2;have hi':i<d.f1.length:=by omega
   have l3:=Wu h (EP 20000 d v (KB d) fu) R i hi' (by omega) (KB d).length 0 20000 [] (by omega) (by have:=Sp d;omega) (by simp);rw[Int.natCast_zero,List.drop_zero,List.nil_append]at l3;have ih:=WO h v m (i+1) fu (R++[(KB d).map fun c=>AA (AA d.f1 (i:Int)) c]) (by omega) (by omega) (by simp;omega);rw[List.append_assoc]at ih;have eg:AA d.f1 (i:Int)=d.f1[i]:=Ae _ i hi';rw[EP.eq_2,if_pos (by omega),if_pos ⟨by omega,by omega⟩,l3,ih,List.drop_eq_getElem_cons hi',List.map_cons,eg];rfl
theorem Oe {d:AI} (h:Dr d):∃ v:Vector Int 256,(∀ c:Nat,c<256→AZ v (c:Int)=(ck (kcol d) c:Int))∧Ye 20000 d=some (AI.mk v (d.f1.map fun r=>(KB d).map fun c=>AA r c) d.f2):=by
 have hn:=h.n2;have hK:=IM h;have hk:=EC h;obtain⟨v,v1,v2⟩:=WU h 256 0 20000 (Vector.replicate 256 0) [] [] (List.replicate (KC d) 0) (List.replicate (KC d) false) (by omega) (by omega)
  ⟨⟨rfl,fun c hc=>by omega,fun s _=>rfl⟩,rfl,by simp,by simp,fun x hx=>by
    rw[GU];constructor
    ·intro e;cases e
    ·rintro⟨c,hc,_⟩;omega,fun c hc=>by omega,fun c hc=>by omega⟩
 rw[Int.natCast_zero,List.nil_append]at v1;refine⟨v,v2,?_⟩;unfold Ye;rw[F6 h.vb,Option.bind_some,hk,if_pos ⟨by omega,by omega,by omega⟩,Int.toNat_natCast,List.length_replicate,if_pos ⟨by omega,by omega,by omega⟩,Int.toNat_natCast,v1];unfold Gr;have:=WO h v d.f1.length 0 20000 [] (by omega) (by omega) (by simp);rw[Int.natCast_zero,List.drop_zero,List.nil_append]at this;exact this
def go (d:AI):Int→List Nat→Int
 | q,[]=>q
 | q,b::w=>go d (stp d q (b:Int)) w
def LL (d:AI) (q:Int) (w:List Nat):Int:=mk d (go d q w)
def Bu (w:List Nat):Prop:=∀ b∈w,b<256
theorem JF (d:AI):∀ (w u:List Nat) (q:Int),go d q (w++u)=go d (go d q w) u
 | [],_,_=>rfl
 | b::w,u,q=>JF d w u _
theorem C4 (d:AI) (w:List Nat) (b:Nat) (q:Int):go d q (w++[b])=stp d (go d q w) (b:Int):=JF d w [b] q
def Wh (w:List Nat):ByteArray:=strOfNums (w.map Int.ofNat)
theorem UQ (w:List Nat):(Wh w).size=w.length:=by unfold Wh;rw[Cm,List.length_map]
theorem Vt {w:List Nat} (h:Bu w) {i:Nat} (hi:i<w.length):AF (Wh w) (i:Int)=(w[i]:Int):=by
 have hi':i<(w.map Int.ofNat).length:=by simpa using hi
 unfold Wh
 rw[Ms (w.map Int.ofNat) (fun x hx=>by
  obtain⟨b,hb,rfl⟩:=List.mem_map.1 hx;have:=h b hb
  exact⟨by show (0:Int)≤(b:Int);omega,by show (b:Int)≤255;omega⟩) i hi',List.getElem_map];rfl
theorem XG {d:AI} {q:Int} {w:List Nat} (h:Bu w):∀ i:Nat,i≤w.length→rn d q (Wh w) i=go d q (w.take i)
 | 0,_=>by rw[List.take_zero];rfl
 | i+1,hi=>by
   have ih:=XG (d:=d) (q:=q) h i (by omega);show stp d (rn d q (Wh w) i) (AF (Wh w) i)=_;rw[ih,Vt h (show i<w.length by omega),List.take_succ_eq_append_getElem (show i<w.length by omega),C4]
theorem QR (d:AI) {w:List Nat} (h:Bu w):hs d (Wh w)=LL d 0 w:=by
 unfold hs LL;rw[UQ,XG h w.length (Nat.le_refl _),List.take_length]
theorem Vm {d:AI} (h:Dr d) {A:List Bool} (hA:AS d A) {w:List Nat} (hw:Bu w):LL (GG d A) 0 w=LL d 0 w:=by
 rw[←QR _ hw, ←QR _ hw,TQ h hA]
theorem OE {d:AI} (h:Dr d) {w:List Nat} (hw:Bu w):LL (Hu d) 0 w=LL d 0 w:=by
 rw[←QR _ hw, ←QR _ hw,RF h]
theorem Kb {e:AI} (h:Dr e) {kk:Nat→ByteArray} (k:KN e kk) (s:Oj e kk) {i:Nat} (hi:i<e.f1.length) (ha:AL e (i:Int)) (hm:f0 e e.f1.length=0):kk i≠kk e.f1.length:=by
 obtain⟨q,r1,r2⟩:=ha;intro eq;have key:∀ p:Int,DR e (i:Int) p→∃ t:Nat,p=(t:Int)∧t<e.f1.length∧kk t=kk e.f1.length:=by
  intro p hp
  induction hp with
  | refl=>exact⟨i,rfl,hi,eq⟩
  | @step p c hp hc h0 ih=>
    obtain⟨t,rfl,t1,t2⟩:=ih;have hrow:=h.row _ (Al (l:=e.f1) (i:=(t:Int)) (by omega) (by omega));have hk:=EC h;have hc':c<KC e:=by
     have:(c:Int)<((AA e.f1 (t:Int)).length:Int):=hc;omega
    have h0':0≤AA (AA e.f1 (t:Int)) (c:Int):=h0;have ent:=h.ent _ (Al (l:=e.f1) (i:=(t:Int)) (by omega) (by omega)) _ (Al (l:=AA e.f1 (t:Int)) (i:=(c:Int)) (by omega) hc);have e1:=s t e.f1.length (by omega) (Nat.le_refl _) t2 c hc';have d1:dl e t c=(AA (AA e.f1 (t:Int)) (c:Int)).toNat:=by unfold dl;rw[if_pos ⟨t1,h0'⟩]
    have d2:dl e e.f1.length c=e.f1.length:=by unfold dl;rw[if_neg (fun q=>by omega)]
    rw[d1,d2]at e1;exact⟨_,(show AA (AA e.f1 (t:Int)) (c:Int)=_ by omega),by omega,e1⟩
 obtain⟨t,rfl,t1,t2⟩:=key q r1;have:=k.mark t e.f1.length (by omega) (Nat.le_refl _) t2;rw[hm]at this;unfold f0 at this;omega
def TR (e:AI):Prop:=∀ i b:Nat,i<e.f1.length→b<256→0≤stp e (i:Int) (b:Int)→AL e (stp e (i:Int) (b:Int))
theorem Wa {e:AI} (h:Dr e):f0 e e.f1.length=0:=by
 have hm:=h.ml;have:mk e (e.f1.length:Int)= -1:=by unfold mk;rw[if_pos (.inr (by omega))]
 unfold f0;rw[this];rfl
theorem Ho {e:AI} (h:Dr e) {i b:Nat} (hi:i<e.f1.length) (hb:b<256):dl e i (cls e b)=(if 0≤stp e (i:Int) (b:Int)then(stp e (i:Int) (b:Int)).toNat else e.f1.length)∧stp e (i:Int) (b:Int)<(e.f1.length:Int)∧ -1≤stp e (i:Int) (b:Int):=by
 obtain⟨k1,k2,k3⟩:=B7 h (q:=(i:Int)) (c:=(b:Int)) (by omega) (by omega) (by omega) (by omega);obtain⟨c1,c2⟩:=DB h hb;have hr:=B2 h (q:=(i:Int)) (c:=(b:Int)) ⟨by omega,by omega⟩ (by omega) (by omega);rw[c1]at k3;refine⟨?_,hr.2,hr.1⟩;have k3':stp e (i:Int) (b:Int)=AA (AA e.f1 (i:Int)) (cls e b:Int):=k3;unfold dl;by_cases q:0≤AA (AA e.f1 (i:Int)) (cls e b:Int)
 ·rw[if_pos ⟨hi,q⟩,k3',if_pos q]
 ·rw[if_neg (fun r=>q r.2),k3',if_neg q]
theorem PY {e:AI} (h:Dr e) {kk:Nat→ByteArray} (k:KN e kk) (s:Oj e kk) (t:TR e) {i j b:Nat} (hi:i<e.f1.length) (hj:j<e.f1.length) (hb:b<256) (eq:kk i=kk j):Fu kk (stp e (i:Int) (b:Int))=Fu kk (stp e (j:Int) (b:Int)):=by
 obtain⟨d1,r1,r2⟩:=Ho h hi hb;obtain⟨d2,r3,r4⟩:=Ho h hj hb;have e1:=s i j (by omega) (by omega) eq (cls e b) (DB h hb).2;rw[d1,d2]at e1;unfold Fu;by_cases q1:0≤stp e (i:Int) (b:Int)
 ·by_cases q2:0≤stp e (j:Int) (b:Int)
  ·rw[if_pos q1,if_pos q2]at e1;rw[if_pos q1,if_pos q2];exact congrArg _ (C2 kk e1)
  ·rw[if_pos q1,if_neg q2]at e1;have ha:=t i b hi hb q1;have:=Kb h k s (i:=(stp e (i:Int) (b:Int)).toNat) (by omega) (by rw[Int.toNat_of_nonneg q1];exact ha) (Wa h);exact absurd e1 this
 ·by_cases q2:0≤stp e (j:Int) (b:Int)
  ·rw[if_neg q1,if_pos q2]at e1;have ha:=t j b hj hb q2;have:=Kb h k s (i:=(stp e (j:Int) (b:Int)).toNat) (by omega) (by rw[Int.toNat_of_nonneg q2];exact ha) (Wa h);exact absurd e1.symm this
  ·rw[if_neg q1,if_neg q2];omega
theorem Js (e:AI) (kk:Nat→ByteArray):(QO e kk).f1.length=nc kk e.f1.length∧(QO e kk).f2.length=nc kk e.f1.length:=by
 have:=GS kk e.f1.length 0;have z:nc kk 0=0:=rfl;rw[z,Nat.add_zero,Nat.zero_add]at this;exact⟨by show ((Fo kk e.f1.length 0).map _).length=_;rw[List.length_map];exact this,by show ((Fo kk e.f1.length 0).map _).length=_;rw[List.length_map];exact this⟩
theorem UY {e:AI} (kk:Nat→ByteArray) {i:Nat} (hi:i<e.f1.length):AA (QO e kk).f1 (ck kk i:Int)=(AA e.f1 (rc kk i:Int)).map (Fu kk)∧AA (QO e kk).f2 (ck kk i:Int)=AA e.f2 (rc kk i:Int):=by
 have hr:=A6 kk i;have hg:=Iv kk e.f1.length 0 (rc kk i) (by omega) (by omega) (Fk kk i);have z:nc kk 0=0:=rfl;rw[z,Nat.sub_zero]at hg;have hg:(Fo kk e.f1.length 0)[ck kk i]? =some (rc kk i):=hg;constructor
 ·show AA ((Fo kk e.f1.length 0).map fun i:Nat=>(AA e.f1 (i:Int)).map (Fu kk)) (ck kk i:Int)=_;unfold AA;rw[Int.toNat_natCast,List.getD,List.getElem?_map,hg];rfl
 ·show AA ((Fo kk e.f1.length 0).map fun i:Nat=>AA e.f2 (i:Int)) (ck kk i:Int)=_;unfold AA;rw[Int.toNat_natCast,List.getD,List.getElem?_map,hg];rfl
theorem HR {kk:Nat→ByteArray}:∀ (n p:Nat),p<nc kk n→∃ i,i<n∧rc kk i=i∧nc kk i=p
 | 0,p,h=>by have:nc kk 0=0:=rfl;omega
 | n+1,p,h=>by
   by_cases q:p<nc kk n
   ·obtain⟨i,h1,h2⟩:=HR n p q;exact⟨i,by omega,h2⟩
   ·rw[nc]at h;by_cases r:rc kk n=n
    ·rw[if_pos r]at h;exact⟨n,by omega,r,by omega⟩
    ·rw[if_neg r]at h;omega
theorem Pw {e:AI} {kk:Nat→ByteArray} {x:Int} (h: -1≤x∧x<(e.f1.length:Int)): -1≤Fu kk x∧Fu kk x<(nc kk e.f1.length:Int):=by
 unfold Fu;split
 ·have:=NL (kk:=kk) (i:=x.toNat) (N:=e.f1.length) (by omega);omega
 ·omega
theorem HZ {e:AI} (h:Dr e) (kk:Nat→ByteArray):Dr (QO e kk):=by
 obtain⟨l1,l2⟩:=Js e kk;have hn:=h.n2;have h1:=h.n1;have hle:=Fv kk e.f1.length;have hml:=h.ml;have hpos:0<nc kk e.f1.length:=by
  have:=NL (kk:=kk) (i:=0) (N:=e.f1.length) (by omega);omega
 refine⟨by omega,by omega,by omega,h.vb,h.gap,fun r hr=>?_,fun r hr x hx=>?_,fun m hm=>?_⟩
 ·obtain⟨i,hi,rfl⟩:=List.mem_map.1 (show r∈(Fo kk e.f1.length 0).map fun i:Nat=>(AA e.f1 (i:Int)).map (Fu kk)from hr);have:=FX kk _ _ i hi;rw[List.length_map];exact h.row _ (Al (by omega) (by omega))
 ·obtain⟨i,hi,rfl⟩:=List.mem_map.1 (show r∈(Fo kk e.f1.length 0).map fun i:Nat=>(AA e.f1 (i:Int)).map (Fu kk)from hr);obtain⟨y,hy,rfl⟩:=List.mem_map.1 hx;have:=FX kk _ _ i hi;have:=Pw (kk:=kk) (h.ent _ (Al (l:=e.f1) (i:=(i:Int)) (by omega) (by omega)) y hy);rw[l1];exact this
 ·obtain⟨i,hi,rfl⟩:=List.mem_map.1 (show m∈(Fo kk e.f1.length 0).map fun i:Nat=>AA e.f2 (i:Int)from hm);have:=FX kk _ _ i hi;exact h.mark _ (Al (by omega) (by omega))
theorem XX {e:AI} (h:Dr e) {kk:Nat→ByteArray} (k:KN e kk) (s:Oj e kk) (t:TR e) {i b:Nat} (hi:i<e.f1.length) (hb:b<256):stp (QO e kk) (ck kk i:Int) (b:Int)=Fu kk (stp e (i:Int) (b:Int)):=by
 have hr:=A6 kk i;have hri:rc kk i<e.f1.length:=by omega
 obtain⟨g1,g2⟩:=UY kk hi;obtain⟨l1,l2⟩:=Js e kk;have hck:=NL (kk:=kk) hi;obtain⟨k1,k2,k3⟩:=B7 (HZ h kk) (q:=(ck kk i:Int)) (c:=(b:Int)) (by omega) (by omega) (by omega) (by omega);obtain⟨m1,m2,m3⟩:=B7 h (q:=(rc kk i:Int)) (c:=(b:Int)) (by omega) (by omega) (by omega) (by omega);rw[←PY h k s t hri hi hb hr.2.1,m3,k3];show AA (AA (QO e kk).f1 (ck kk i:Int)) (AZ e.f0 (b:Int))=_;rw[g1,Dm _ _ m1 m2]
theorem GO:Bu []:=fun b hb=>by cases hb
theorem Bu.app {w u:List Nat} (h:Bu w) (k:Bu u):Bu (w++u):=fun x hx=>(List.mem_append.1 hx).elim (h x) (k x)
theorem Bu.tl {b:Nat} {w:List Nat} (h:Bu (b::w)):Bu w:=fun x hx=>h x (.tail _ hx)
theorem Bu.hd {b:Nat} {w:List Nat} (h:Bu (b::w)):b<256:=h b (.head _)
theorem FB {b:Nat} (h:b<256):Bu [b]:=fun x hx=>by
 have:x=b:=by simpa using hx
 omega
theorem Bu.cons {b:Nat} {w:List Nat} (h:b<256) (k:Bu w):Bu (b::w):=Bu.app (FB h) k
theorem Vn {d:AI} (h:Dr d) {p:Int} {c:Nat} (h0:0≤p) (h1:p<(d.f1.length:Int)) (hc:(c:Int)<((Bl d p).length:Int)):∃ b:Nat,b<256∧stp d p (b:Int)=AA (Bl d p) (c:Int):=by
 have hk:=h.rowk h0 h1;have hk':((Bl d p).length:Int)=EA d.f0:=hk;obtain⟨b,hb,e⟩:=h.gap c (by omega);obtain⟨k1,k2,k3⟩:=B7 h h0 h1 (c:=(b:Int)) (by omega) (by omega);exact⟨b,hb,by rw[k3,e]⟩
theorem WL {d:AI} (h:Dr d) {s q:Int} (hs:0≤s∧s<(d.f1.length:Int)) (k:DR d s q):∃ w,Bu w∧go d s w=q:=by
 induction k with
 | refl=>exact⟨[],GO,rfl⟩
 | @step p c hp hc h0 ih=>
   obtain⟨w,w1,w2⟩:=ih;have hr:=DR.in h hs hp;obtain⟨b,b1,b2⟩:=Vn h hr.1 hr.2 hc;exact⟨w++[b],w1.app (FB b1),by rw[C4,w2,b2]⟩
theorem EM (d:AI):∀ w:List Nat,go d (-1) w= -1
 | []=>rfl
 | b::w=>by rw[go,Bo];exact EM d w
theorem DG (d:AI) (w:List Nat):LL d (-1) w= -1:=by unfold LL;rw[EM,DJ]
theorem DM {d:AI} (h:Dr d):∀ (w:List Nat) (q:Int),Bu w→ -1≤q∧q<(d.f1.length:Int)→ -1≤go d q w∧go d q w<(d.f1.length:Int)
 | [],q,_,hq=>hq
 | b::w,q,hw,hq=>by
   have:=hw.hd;exact DM h w _ hw.tl (B2 h hq (by omega) (by omega))
theorem Xr {d:AI} (h:Dr d) {q:Int} {b:Nat} (h0:0≤q) (h1:q<(d.f1.length:Int)) (hb:b<256) (hn:0≤stp d q (b:Int)):DR d q (stp d q (b:Int)):=by
 obtain⟨k1,k2,k3⟩:=B7 h h0 h1 (c:=(b:Int)) (by omega) (by omega);obtain⟨c,hc⟩:=Int.eq_ofNat_of_zero_le k1;rw[hc]at k3 k2;rw[k3]at hn⊢
 exact DR.step .refl k2 hn
theorem Wm {d:AI} (h:Dr d):∀ (w:List Nat) (q:Int),Bu w→0≤q→q<(d.f1.length:Int)→0≤go d q w→DR d q (go d q w)
 | [],q,_,_,_,_=>.refl
 | b::w,q,hw,h0,h1,hn=>by
   have hb:=hw.hd;have hr:=B2 h (q:=q) (c:=(b:Int)) ⟨by omega,h1⟩ (by omega) (by omega);by_cases a:stp d q (b:Int)= -1
   ·rw[go,a,EM]at hn;omega
   ·have hs:=Xr h h0 h1 hb (by omega);exact hs.trans (Wm h w _ hw.tl (by omega) hr.2 hn)
theorem Zd {d:AI} (h:Dr d) (q:Int) (w:List Nat): -1≤LL d q w:=(IP h _).1
theorem YG {d:AI} (h:Dr d) {q:Int} {w:List Nat} (hw:Bu w) (hq: -1≤q∧q<(d.f1.length:Int)) (hl:0≤LL d q w):0≤go d q w:=by
 have:=DM h w q hw hq;by_cases a:go d q w= -1
 ·unfold LL at hl;rw[a,DJ]at hl;omega
 ·omega
theorem Jm {d:AI} (h:Dr d) {q:Int} (h0:0≤q) (h1:q<(d.f1.length:Int)):AL d q↔∃ w,Bu w∧0≤LL d q w:=by
 constructor
 ·rintro⟨r,r1,r2⟩;obtain⟨w,w1,w2⟩:=WL h ⟨h0,h1⟩ r1;exact⟨w,w1,by unfold LL;rw[w2];exact r2⟩
 ·rintro⟨w,w1,w2⟩;exact⟨_,Wm h w q w1 h0 h1 (YG h w1 ⟨by omega,h1⟩ w2),w2⟩
theorem Qe (d:AI) (A:List Bool):(GG d A).f1.length=d.f1.length:=by show (d.f1.map _).length=_;rw[List.length_map]
theorem P1 {d:AI} (h:Dr d) (A:List Bool) {q:Int} {b:Nat} (h0:0≤q) (h1:q<(d.f1.length:Int)) (hb:b<256):stp (GG d A) q (b:Int)=tr A (stp d q (b:Int)):=by
 obtain⟨k1,k2,k3⟩:=B7 h h0 h1 (c:=(b:Int)) (by omega) (by omega);obtain⟨m1,m2,m3⟩:=B7 (Gs h A) (q:=q) (c:=(b:Int)) h0 (by rw[Qe];exact h1) (by omega) (by omega);rw[m3,k3,Q9 A h0 h1];exact Dm (tr A) _ k1 k2
theorem Tt {d:AI} (h:Dr d) {A:List Bool} (hA:AS d A):∀ (w:List Nat) (q:Int),Bu w→ -1≤q∧q<(d.f1.length:Int)→LL (GG d A) q w=LL d q w
 | [],q,_,_=>rfl
 | b::w,q,hw,hq=>by
   have hb:=hw.hd;by_cases a:q= -1
   ·rw[a,DG,DG]
   ·have hr:=B2 h (q:=q) (c:=(b:Int)) hq (by omega) (by omega);have e1:LL (GG d A) q (b::w)=LL (GG d A) (tr A (stp d q (b:Int))) w:=by
     show LL (GG d A) (stp (GG d A) q (b:Int)) w=_;rw[P1 h A (by omega) hq.2 hb]
    have e2:LL d q (b::w)=LL d (stp d q (b:Int)) w:=rfl;rw[e1,e2];unfold tr;by_cases c:0≤stp d q (b:Int)∧AA A (stp d q (b:Int))=false
    ·rw[if_pos c,DG];have hna:¬ AL d (stp d q (b:Int)):=fun k=>by
      have:=(hA.2 _ c.1 hr.2).2 k;rw[c.2]at this;cases this
     have hge:=Zd h (stp d q (b:Int)) w;by_cases x:0≤LL d (stp d q (b:Int)) w
     ·exact absurd ((Jm h c.1 hr.2).2 ⟨w,hw.tl,x⟩) hna
     ·omega
    ·rw[if_neg c];exact Tt h hA w _ hw.tl hr
theorem E7 {d:AI} (h:Dr d):pl (OL d) (-1)= -1:=D1 fun k=>by have:=((Gm h).rng _ k).1;omega
theorem Lw {d:AI} (h:Dr d):∀ (w:List Nat) (q:Int),Bu w→(q= -1∨q∈OL d)→go (Hu d) (pl (OL d) q) w=pl (OL d) (go d q w)∧(go d q w= -1∨go d q w∈OL d)
 | [],q,_,hq=>⟨rfl,hq⟩
 | b::w,q,hw,hq=>by
   have hb:=hw.hd;rcases hq with e|e
   ·rw[e,E7 h,EM,EM];exact⟨(E7 h).symm,.inl rfl⟩
   ·obtain⟨s1,s2⟩:=La h e (c:=(b:Int)) (by omega) (by omega);have:=Lw h w (stp d q (b:Int)) hw.tl s2;rw[go,go,s1];exact this
theorem Vy {d:AI} (h:Dr d) {q:Int} (hq:q= -1∨q∈OL d):mk (Hu d) (pl (OL d) q)=mk d q:=by
 rcases hq with e|e
 ·rw[e,E7 h,DJ,DJ]
 ·exact T7 h e
theorem Xv {d:AI} (h:Dr d) {w:List Nat} {q:Int} (hw:Bu w) (hq:q= -1∨q∈OL d):LL (Hu d) (pl (OL d) q) w=LL d q w:=by
 obtain⟨g1,g2⟩:=Lw h w q hw hq;unfold LL;rw[g1];exact Vy h g2
theorem Uq {L:List Int} (hn:L.Nodup) {i:Nat} (hi:i<L.length):pl L (AA L (i:Int))=(i:Int):=by
 have hm:AA L (i:Int)∈L:=Al (by omega) (by omega);obtain⟨j,j1,j2,j3⟩:=Dx hm;rw[j2];rw[Ae _ j j1,Ae _ i hi]at j3;have hp:=List.pairwise_iff_getElem.1 hn;rcases Nat.lt_trichotomy i j with a|a|a
 ·exact absurd j3.symm (hp i j hi j1 a)
 ·omega
 ·exact absurd j3 (hp j i j1 hi a)
def cY (e:AI):Prop:=∀ i:Nat,i<e.f1.length→∃ w,Bu w∧go e 0 w=(i:Int)
theorem Qk {d:AI} (h:Dr d):cY (Hu d):=by
 intro i hi;rw[Gc]at hi;have hO:=Gm h;have hm:AA (OL d) (i:Int)∈OL d:=Al (by omega) (by omega);have hn:=h.n1;obtain⟨w,w1,w2⟩:=WL h (s:=0) (by omega) (hO.rch _ hm);obtain⟨z1,z2⟩:=J0 h;have:=(Lw h w 0 w1 (.inr z1)).1;rw[z2,w2,Uq hO.nd hi]at this;exact⟨w,w1,this⟩
theorem Pc {d:AI} (h:Dr d) {A:List Bool} (hA:AS d A):TR (Hu (GG d A)):=by
 have hT:=Gs h A;have hO:=Gm hT;intro i b hi hb hp;have hi':=hi;rw[Gc]at hi';have hm:AA (OL (GG d A)) (i:Int)∈OL (GG d A):=Al (by omega) (by omega);have hr:=hO.rng _ hm;rw[Qe]at hr;obtain⟨s1,s2⟩:=La hT hm (c:=(b:Int)) (by omega) (by omega);rw[Uq hO.nd hi']at s1;have hne:stp (GG d A) (AA (OL (GG d A)) (i:Int)) (b:Int)≠ -1:=fun e=>by
  rw[e,E7 hT]at s1;omega
 have s3:=s2.resolve_left hne;rw[P1 h A hr.1 hr.2 hb]at s1 s3 hne;have hrg:=B2 h (q:=AA (OL (GG d A)) (i:Int)) (c:=(b:Int)) (by omega) (by omega) (by omega);generalize stp d (AA (OL (GG d A)) (i:Int)) (b:Int)=p at *
 have hal:0≤p∧AL d p:=by
  unfold tr at hne;by_cases c:0≤p∧AA A p=false
  ·rw[if_pos c]at hne;exact absurd rfl hne
  ·rw[if_neg c]at hne;refine⟨by omega,(hA.2 _ (by omega) hrg.2).1 ?_⟩
   cases hx:AA A p with
   | true=>rfl
   | false=>exact absurd ⟨by omega,hx⟩ c
 have etr:tr A p=p:=by
  unfold tr;rw[if_neg];rintro⟨_,c⟩;rw[(hA.2 _ hal.1 hrg.2).2 hal.2]at c;cases c
 rw[etr]at s1 s3;obtain⟨w,w1,w2⟩:=(Jm h hal.1 hrg.2).1 hal.2;rw[s1]at hp⊢
 have hlt:=(WR (L:=OL (GG d A)) p).2;refine(Jm (G8 hT) hp (by rw[Gc];exact hlt)).2 ⟨w,w1,?_⟩;rw[Xv hT w1 (.inr s3),Tt h hA w p w1 (by omega)];exact w2
theorem ZB {e:AI} (h:Dr e) {i j:Nat} (k:f0 e i=f0 e j):mk e (i:Int)=mk e (j:Int):=by
 have h1:=IP h (i:Int);have h2:=IP h (j:Int);unfold f0 at k;omega
theorem Da (kk:Nat→ByteArray) (i:Nat):Fu kk (i:Int)=(ck kk i:Int):=by
 unfold Fu;rw[if_pos (by omega),Int.toNat_natCast]
theorem QH (kk:Nat→ByteArray):Fu kk (-1)= -1:=rfl
theorem Zy {e:AI} (h:Dr e) {kk:Nat→ByteArray} (k:KN e kk) {q:Int} (hq: -1≤q∧q<(e.f1.length:Int)):mk (QO e kk) (Fu kk q)=mk e q:=by
 by_cases a:q= -1
 ·rw[a,QH,DJ,DJ]
 ·obtain⟨i,rfl⟩:=Int.eq_ofNat_of_zero_le (show 0≤q by omega);have hi:i<e.f1.length:=by omega
  have hr:=A6 kk i;obtain⟨l1,l2⟩:=Js e kk;have hck:=NL (kk:=kk) hi;rw[Da,N9 (HZ h kk) (by omega) (by omega),(UY kk hi).2, ←N9 h (by omega) (by omega)];exact ZB h (k.mark _ _ (by omega) (by omega) hr.2.1)
theorem ND {e:AI} (h:Dr e) {kk:Nat→ByteArray} (k:KN e kk) (s:Oj e kk) (t:TR e):∀ (w:List Nat) (q:Int),Bu w→ -1≤q∧q<(e.f1.length:Int)→go (QO e kk) (Fu kk q) w=Fu kk (go e q w)
 | [],_,_,_=>rfl
 | b::w,q,hw,hq=>by
   have hb:=hw.hd;by_cases a:q= -1
   ·rw[a,QH,EM,EM];rfl
   ·obtain⟨i,rfl⟩:=Int.eq_ofNat_of_zero_le (show 0≤q by omega);have hr:=B2 h (q:=(i:Int)) (c:=(b:Int)) hq (by omega) (by omega);rw[go,go,Da,XX h k s t (by omega) hb];exact ND h k s t w _ hw.tl hr
theorem Nh {e:AI} (h:Dr e) {kk:Nat→ByteArray} (k:KN e kk) (s:Oj e kk) (t:TR e) {w:List Nat} {q:Int} (hw:Bu w) (hq: -1≤q∧q<(e.f1.length:Int)):LL (QO e kk) (Fu kk q) w=LL e q w:=by
 unfold LL;rw[ND h k s t w q hw hq];exact Zy h k (DM h w q hw hq)
theorem Rq {e:AI} (h:Dr e) {kk:Nat→ByteArray} (k:KN e kk) (s:Oj e kk) (t:TR e) {i j:Nat} (hi:i<e.f1.length) (hj:j<e.f1.length):kk i=kk j↔∀ w,Bu w→LL e (i:Int) w=LL e (j:Int) w:=by
 constructor
 ·intro eq w hw;rw[←Nh h k s t hw (q:=(i:Int)) (by omega), ←Nh h k s t hw (q:=(j:Int)) (by omega),Da,Da,C2 kk eq]
 ·intro hl
  let E:Nat→Nat→Prop:=fun i j=>∀ w,Bu w→LL e (if i<e.f1.length then(i:Int)else -1) w=LL e (if j<e.f1.length then(j:Int)else -1) w
  have stepE:∀ i,i≤e.f1.length→∀ b,b<256→∀ w,Bu w→LL e (if dl e i (cls e b)<e.f1.length then(dl e i (cls e b):Int)else -1) w=LL e (if i<e.f1.length then(i:Int)else -1) (b::w):=by
   intro i hi b hb w hw;by_cases a:i<e.f1.length
   ·rw[if_pos a];obtain⟨d1,r1,r2⟩:=Ho h a hb;rw[d1];by_cases c:0≤stp e (i:Int) (b:Int)
    ·rw[if_pos c,if_pos (by omega),Int.toNat_of_nonneg c];rfl
    ·rw[if_neg c,if_neg (by omega)];have:stp e (i:Int) (b:Int)= -1:=by omega
     show _=LL e (stp e (i:Int) (b:Int)) w;rw[this]
   ·rw[if_neg a,DG];have:dl e i (cls e b)=e.f1.length:=by unfold dl;rw[if_neg (fun q=>a q.1)]
    rw[this,if_neg (by omega),DG]
  have hB:cn e E:=by
   intro i j hi hj hE;refine⟨?_,fun c hc w hw=>?_⟩
   ·have m0:∀ i,i≤e.f1.length→LL e (if i<e.f1.length then(i:Int)else -1) []=mk e (i:Int):=by
     intro i hi;by_cases a:i<e.f1.length
     ·rw[if_pos a];rfl
     ·rw[if_neg a,DG];have hm:=h.ml;unfold mk;rw[if_pos (.inr (by omega))]
    have:=hE [] GO;rw[m0 i hi,m0 j hj]at this;unfold f0;rw[this]
   ·have hk:=EC h;obtain⟨b,hb,eb⟩:=h.gap c (by omega);have ec:cls e b=c:=by unfold cls;rw[eb,Int.toNat_natCast]
    have:=hE (b::w) (Bu.cons hb hw);rw[←stepE i hi b hb w hw, ←stepE j hj b hb w hw,ec]at this;exact this
  refine k.bis E hB i j (by omega) (by omega) fun w hw=>?_;rw[if_pos hi,if_pos hj];exact hl w hw
theorem Q3 {e:AI} (h:Dr e) (t:TR e) {w:List Nat} (hw:Bu w):0≤go e 0 w↔w=[]∨∃ u,Bu u∧0≤LL e 0 (w++u):=by
 have h1:=h.n1;constructor
 ·intro hp;rcases List.eq_nil_or_concat w with rfl|⟨v,b,rfl⟩
  ·exact .inl rfl
  ·right;have e0:v.concat b=v++[b]:=List.concat_eq_append;rw[e0]at hp hw⊢
   have hv:Bu v:=fun x hx=>hw x (List.mem_append_left _ hx);have hb:b<256:=hw b (by simp);rw[C4]at hp;have hg:=DM h v 0 hv (by omega);by_cases a:go e 0 v= -1
   ·rw[a,Bo]at hp;omega
   ·obtain⟨i,hi⟩:=Int.eq_ofNat_of_zero_le (show 0≤go e 0 v by omega);have hr:=B2 h (q:=go e 0 v) (c:=(b:Int)) hg (by omega) (by omega);rw[hi]at hp hg hr;obtain⟨u,u1,u2⟩:=(Jm h hp hr.2).1 (t i b (by omega) hb hp);refine⟨u,u1,?_⟩;unfold LL;rw[JF,C4,hi];exact u2
 ·rintro (rfl|⟨u,u1,u2⟩)
  ·show (0:Int)≤0;omega
  ·have hg:=DM h w 0 hw (by omega);by_cases a:go e 0 w= -1
   ·unfold LL at u2;rw[JF,a,EM,DJ]at u2;omega
   ·omega
theorem Hn (e:AI) (q:Int) (w u:List Nat):LL e q (w++u)=LL e (go e q w) u:=by unfold LL;rw[JF]
def bw (e:AI) (kk:Nat→ByteArray) (w:List Nat):Int:=Fu kk (go e 0 w)
theorem PV (kk:Nat→ByteArray) {x:Int} (h: -1≤x):(0≤Fu kk x↔0≤x):=by
 unfold Fu;split<;>omega
theorem Xk {e:AI} (h:Dr e) {kk:Nat→ByteArray} (k:KN e kk) (s:Oj e kk) (t:TR e) {w w':List Nat} (hw:Bu w) (hw':Bu w'):bw e kk w=bw e kk w'↔(0≤go e 0 w↔0≤go e 0 w')∧∀ u,Bu u→LL e 0 (w++u)=LL e 0 (w'++u):=by
 have h1:=h.n1;have g1:=DM h w 0 hw (by omega);have g2:=DM h w' 0 hw' (by omega);have lapp:∀ w u,LL e 0 (w++u)=LL e (go e 0 w) u:=fun w u=>Hn e 0 w u;unfold bw;constructor
 ·intro eq;refine⟨?_,fun u hu=>?_⟩
  ·rw[←PV kk g1.1, ←PV kk g2.1,eq]
  ·rw[lapp,lapp, ←Nh h k s t hu g1, ←Nh h k s t hu g2,eq]
 ·rintro⟨e1,e2⟩;by_cases a:0≤go e 0 w
  ·obtain⟨i,hi⟩:=Int.eq_ofNat_of_zero_le a;obtain⟨j,hj⟩:=Int.eq_ofNat_of_zero_le (e1.1 a);rw[hi,hj,Da,Da];have:=(Rq h k s t (i:=i) (j:=j) (by omega) (by omega)).2 fun u hu=>by
    have:=e2 u hu;rw[lapp,lapp,hi,hj]at this;exact this
   rw[C2 kk this]
  ·have b:¬ 0≤go e 0 w':=fun q=>a (e1.2 q);rw[show go e 0 w= -1 by omega,show go e 0 w'= -1 by omega]
theorem Ni {q:AI} (h:Dr q) {b c:Nat} (hb:b<256) (hc:c<256):kcol q b=kcol q c↔∀ p:Nat,p<q.f1.length→stp q (p:Int) (b:Int)=stp q (p:Int) (c:Int):=by
 obtain⟨b1,b2⟩:=DB h hb;obtain⟨c1,c2⟩:=DB h hc;have hk:=EC h;have hn:=h.n2;have st:∀ (p:Nat) (x:Nat),p<q.f1.length→x<256→stp q (p:Int) (x:Int)=AA (AA q.f1 (p:Int)) (cls q x:Int):=by
  intro p x hp hx;obtain⟨k1,k2,k3⟩:=B7 h (q:=(p:Int)) (c:=(x:Int)) (by omega) (by omega) (by omega) (by omega);rw[(DB h hx).1]at k3;exact k3
 have en:∀ r∈q.f1,∀ x,x<256→ -1≤AA r (cls q x:Int)∧AA r (cls q x:Int)<(q.f1.length:Int):=by
  intro r hr x hx;have:=h.row r hr;have:=(DB h hx).2;exact h.ent r hr _ (Al (by omega) (by omega))
 have rng:∀ x,x<256→∀ v∈ZP q (cls q x),v<65536:=by
  intro x hx v hv;obtain⟨r,hr,rfl⟩:=List.mem_map.1 hv;have:=en r hr x hx;omega
 unfold kcol;constructor
 ·intro e p hp;have e:=JV (Cl (F9 (rng b hb)) (F9 (rng c hc)) e);have hr:AA q.f1 (p:Int)∈q.f1:=Al (by omega) (by omega);have:=List.map_inj_left.1 e _ hr;have r1:=en _ hr b hb;have r2:=en _ hr c hc;rw[st p b hp hb,st p c hp hc];omega
 ·intro e;have:ZP q (cls q b)=ZP q (cls q c):=by
   unfold ZP;refine List.map_inj_left.2 fun r hr=>?_;obtain⟨p,hp,rfl⟩:=Cc hr;have:=e p hp;rw[st p b hp hb,st p c hp hc]at this;rw[this]
  rw[this]
def CM (q:AI) (v:Vector Int 256):AI:=AI.mk v (q.f1.map fun r=>(KB q).map fun c=>AA r c) q.f2
def CV (q:AI) (v:Vector Int 256):Prop:=∀ c:Nat,c<256→AZ v (c:Int)=(ck (kcol q) c:Int)
theorem X5 (v:Vector Int 256) {c:Int} (h:¬ c.toNat<256):AZ v c=0:=by
 have:v.toList[c.toNat]? =none:=List.getElem?_eq_none (by simp;omega);simp only[AZ,List.getD,this];rfl
theorem Wo {q:AI} {v:Vector Int 256} (h:CV q v):VB v:=by
 intro c;by_cases hc:c.toNat<256
 ·by_cases h0:0≤c
  ·obtain⟨n,rfl⟩:=Int.eq_ofNat_of_zero_le h0;rw[h n (by omega)];have:=Fl (kcol q) n;omega
  ·have e:AZ v c=AZ v ((0:Nat):Int):=by unfold AZ;rw[show c.toNat=0 by omega];rfl
   rw[e,h 0 (by omega)];have:=Fl (kcol q) 0;omega
 ·rw[X5 v hc];omega
theorem Sl {q:AI} {v:Vector Int 256} (h:CV q v):EA v=(nc (kcol q) 256:Int):=by
 have h1:=F6 (Wo h);have h2:=JI (kk:=kcol q) v h 256 0 20000 (by omega) (by omega);have h3:Wk 20000 v=Cj 20000 v 20000 (nc (kcol q) 0:Int) (0:Int):=rfl;rw[h3]at h1;rw[Int.natCast_zero]at h2;rw[h2]at h1;exact(Option.some.inj h1).symm
theorem U3 (q:AI):(KB q).length=nc (kcol q) 256:=by
 unfold KB;rw[List.length_map];have:=GS (kcol q) 256 0;have z:nc (kcol q) 0=0:=rfl;rw[z,Nat.zero_add,Nat.add_zero]at this;exact this
theorem YR (q:AI) {b:Nat} (hb:b<256):(KB q)[ck (kcol q) b]? =some (cls q (rc (kcol q) b):Int):=by
 have hr:=A6 (kcol q) b;have hg:=Iv (kcol q) 256 0 (rc (kcol q) b) (by omega) (by omega) (Fk (kcol q) b);have z:nc (kcol q) 0=0:=rfl;rw[z,Nat.sub_zero]at hg;have hg:(Fo (kcol q) 256 0)[ck (kcol q) b]? =some (rc (kcol q) b):=hg;unfold KB;rw[List.getElem?_map,hg];rfl
theorem KA (q:AI) (v:Vector Int 256):(CM q v).f1.length=q.f1.length:=by show (q.f1.map _).length=_;rw[List.length_map]
theorem NQ {q:AI} (h:Dr q) {v:Vector Int 256} (hv:CV q v):Dr (CM q v):=by
 have hk:=Sl hv;refine⟨by rw[KA];exact h.n1,by rw[KA];exact h.n2,by rw[KA];exact h.ml,Wo hv,fun c hc=>?_,fun r hr=>?_,fun r hr x hx=>?_,h.mark⟩
 ·have hc':(c:Int)<EA v:=hc;obtain⟨b,b1,b2,b3⟩:=HR (kk:=kcol q) 256 c (by omega);refine⟨b,b1,?_⟩;show AZ v (b:Int)=_;rw[hv b b1];unfold ck;rw[b2,b3]
 ·obtain⟨r',hr',rfl⟩:=List.mem_map.1 (show r∈q.f1.map fun r=>(KB q).map fun c=>AA r c from hr);rw[List.length_map,U3];exact hk.symm
 ·obtain⟨r',hr',rfl⟩:=List.mem_map.1 (show r∈q.f1.map fun r=>(KB q).map fun c=>AA r c from hr);obtain⟨c,hc,rfl⟩:=List.mem_map.1 hx;obtain⟨k1,k2⟩:=T2 h hc;have hrow:=h.row r' hr';rw[KA];exact h.ent r' hr' _ (Al k1 (by omega))
theorem Tg {q:AI} (h:Dr q) {v:Vector Int 256} (hv:CV q v) {p b:Nat} (hp:p<q.f1.length) (hb:b<256):stp (CM q v) (p:Int) (b:Int)=stp q (p:Int) (b:Int):=by
 obtain⟨k1,k2,k3⟩:=B7 (NQ h hv) (q:=(p:Int)) (c:=(b:Int)) (by omega) (by rw[KA];omega) (by omega) (by omega);have hr:=A6 (kcol q) b;rw[k3];show AA (Bl (CM q v) (p:Int)) (AZ v (b:Int))=_;rw[hv b hb];have e:AA (Bl (CM q v) (p:Int)) (ck (kcol q) b:Int)=AA (AA q.f1 (p:Int)) (cls q (rc (kcol q) b):Int):=by
  show AA (AA (q.f1.map fun r=>(KB q).map fun c=>AA r c) (p:Int)) _=_;rw[Dm _ _ (by omega) (by omega)];show (List.map (fun c=>AA (AA q.f1 (p:Int)) c) (KB q)).getD (ck (kcol q) b:Int).toNat default=_;rw[Int.toNat_natCast,List.getD,List.getElem?_map,YR q hb];rfl
 rw[e];obtain⟨m1,m2,m3⟩:=B7 h (q:=(p:Int)) (c:=(rc (kcol q) b:Int)) (by omega) (by omega) (by omega) (by omega);rw[(DB h (b:=rc (kcol q) b) (by omega)).1]at m3;rw[←(Ni h (b:=rc (kcol q) b) (c:=b) (by omega) hb).1 hr.2.1 p hp];exact m3.symm
theorem Wi {q:AI} (h:Dr q) {v:Vector Int 256} (hv:CV q v):∀ (w:List Nat) (p:Int),Bu w→ -1≤p∧p<(q.f1.length:Int)→LL (CM q v) p w=LL q p w
 | [],p,_,_=>rfl
 | b::w,p,hw,hp=>by
   have hb:=hw.hd;by_cases a:p= -1
   ·rw[a,DG,DG]
   ·obtain⟨i,rfl⟩:=Int.eq_ofNat_of_zero_le (show 0≤p by omega);have hr:=B2 h (q:=(i:Int)) (c:=(b:Int)) hp (by omega) (by omega);show LL (CM q v) (stp (CM q v) (i:Int) (b:Int)) w=LL q (stp q (i:Int) (b:Int)) w;rw[Tg h hv (by omega) hb];exact Wi h hv w _ hw.tl hr
structure cm (a b:AI) (φ:Int→Int) (V:Int→Prop):Prop where
 f0:b.f0=a.f0
 z:φ 0=0
 vz:V 0
 pos:∀ x,V x→(0≤φ x↔0≤x)
 inj:∀ x y,V x→V y→φ x=φ y→x=y
 row:∀ x,V x→0≤x→Bl b (φ x)=(Bl a x).map φ∧∀ y∈Bl a x,V y
 mark:∀ x,V x→0≤x→AA b.f2 (φ x)=AA a.f2 x
variable {a b:AI} {φ:Int→Int} {V:Int→Prop}
theorem cm.mem (h:cm a b φ V) {L:List Int} (hL:∀ y∈L,V y) {x:Int} (hx:V x):φ x∈L.map φ↔x∈L:=by
 constructor
 ·intro k;obtain⟨y,y1,y2⟩:=List.mem_map.1 k;rw[←h.inj y x (hL y y1) hx y2];exact y1
 ·intro k;exact List.mem_map_of_mem k
structure Ro (e:AI) (kk:Nat→ByteArray):Prop where
 dr:Dr e
 cut:KN e kk
 stb:Oj e kk
 tr:TR e
 rch:cY e
theorem Ro.of {d:AI} (h:Dr d) {A:List Bool} (hA:AS d A) {kk:Nat→ByteArray} (k:KN (Hu (GG d A)) kk) (s:Oj (Hu (GG d A)) kk):Ro (Hu (GG d A)) kk:=
 ⟨G8 (Gs h A),k,s,Pc h hA,Qk (Gs h A)⟩
theorem Ro.word {e:AI} {kk:Nat→ByteArray} (m:Ro e kk) {p:Nat} (hp:p<(QO e kk).f1.length):∃ w,Bu w∧bw e kk w=(p:Int):=by
 rw[(Js e kk).1]at hp;obtain⟨i,i1,i2,i3⟩:=HR (kk:=kk) _ p hp;obtain⟨w,w1,w2⟩:=m.rch i i1;refine⟨w,w1,?_⟩;unfold bw;rw[w2,Da];unfold ck;rw[i2,i3]
theorem Ro.stp {e:AI} {kk:Nat→ByteArray} (m:Ro e kk) {w:List Nat} {b:Nat} (hw:Bu w) (hb:b<256):stp (QO e kk) (bw e kk w) (b:Int)=bw e kk (w++[b]):=by
 have h1:=m.dr.n1;have:=ND m.dr m.cut m.stb m.tr (w++[b]) 0 (hw.app (FB hb)) (by omega);have h2:=ND m.dr m.cut m.stb m.tr w 0 hw (by omega);rw[C4,h2]at this;exact this
theorem Ro.kcol {e:AI} {kk:Nat→ByteArray} (m:Ro e kk) {b c:Nat} (hb:b<256) (hc:c<256):kcol (QO e kk) b=kcol (QO e kk) c↔∀ w,Bu w→bw e kk (w++[b])=bw e kk (w++[c]):=by
 have h1:=m.dr.n1;rw[Ni (HZ m.dr kk) hb hc];constructor
 ·intro k w hw;rw[←m.stp hw hb, ←m.stp hw hc];have hg:=DM m.dr w 0 hw (by omega);have hr:=Pw (kk:=kk) hg;by_cases a:bw e kk w= -1
  ·rw[a,Bo,Bo]
  ·obtain⟨p,hp⟩:=Int.eq_ofNat_of_zero_le (show 0≤bw e kk w by unfold bw at a⊢;omega);rw[hp];refine k p ?_;rw[(Js e kk).1];have:bw e kk w<(nc kk e.f1.length:Int):=hr.2;omega
 ·intro k p hp;obtain⟨w,w1,w2⟩:=m.word hp;rw[←w2,m.stp w1 hb,m.stp w1 hc];exact k w w1
def U2 (e e':AI):Prop:=∀ w,Bu w→LL e 0 w=LL e' 0 w
theorem U2.symm {e e':AI} (h:U2 e e'):U2 e' e:=fun w hw=>(h w hw).symm
theorem U2.trans {a b c:AI} (h:U2 a b) (k:U2 b c):U2 a c:=fun w hw=>(h w hw).trans (k w hw)
open Classical in
theorem X7 {e:AI} {kk:Nat→ByteArray} (m:Ro e kk) {w:List Nat} (hw:Bu w):0≤bw e kk w↔0≤go e 0 w:=by
 have h1:=m.dr.n1;have hg:=DM m.dr w 0 hw (by omega);exact PV kk hg.1
structure MO (d x:AI):Prop where
 dr:Dr x
 sl:U2 x d
theorem of_eq {d:AI} (h:Dr d) (hr:R6 20000 d=some true) (hrr:∀ e,Dr e→R6 20000 e=some true):∃ e kk v,Ro e kk∧U2 e d∧CV (QO e kk) v∧Xh 20000 d=some (Hu (CM (QO e kk) v),0):=by
 obtain⟨A,kk,hA,hc,hs,eq⟩:=Xg h hr hrr;have m:=Ro.of h hA hc hs;obtain⟨v,v1,v2⟩:=Oe (HZ m.dr kk);refine⟨_,kk,v,m,fun w hw=>?_,v1,?_⟩
 ·rw[OE (Gs h A) hw,Vm h hA hw]
 ·have:Ye 20000 (QO (Hu (GG d A)) kk)=some (CM (QO (Hu (GG d A)) kk) v):=v2;rw[eq,this,Option.bind_some,Np (NQ (HZ m.dr kk) v1),Option.bind_some]
theorem ct {e:AI} {kk:Nat→ByteArray} (m:Ro e kk) {v:Vector Int 256} (hv:CV (QO e kk) v):MO e (Hu (CM (QO e kk) v)):=by
 have hQ:=HZ m.dr kk;have h1:=m.dr.n1;have q1:=hQ.n1;refine⟨G8 (NQ hQ hv),fun w hw=>?_⟩;rw[OE (NQ hQ hv) hw,Wi hQ hv w 0 hw (by omega)];have:=Nh m.dr m.cut m.stb m.tr hw (q:=0) (by omega);rw[←this];have hz:Fu kk ((0:Nat):Int)=0:=by
  rw[Da];have:=Fl kk 0;omega
 have hz:Fu kk 0=0:=hz;rw[hz]
section
variable (d:AI) (t:Nat)
end
variable {d:AI} {t:Nat}
def LN (d:AI) (i:Nat) (w:List Nat):Int:=LL d (if i<d.f1.length then(i:Int)else -1) w
theorem H4 {d:AI} (h:Dr d) {i:Nat} (hi:i≤d.f1.length):LN d i []=mk d (i:Int):=by
 unfold LN;by_cases a:i<d.f1.length
 ·rw[if_pos a];rfl
 ·rw[if_neg a,DG];have hm:=h.ml;unfold mk;rw[if_pos (.inr (by omega))]
theorem XZ {d:AI} {i:Nat} (hi:¬ i<d.f1.length) (w:List Nat):LN d i w= -1:=by
 unfold LN;rw[if_neg hi,DG]
theorem CH {d:AI} (h:Dr d) {i b:Nat} (hi:i≤d.f1.length) (hb:b<256) (w:List Nat):LN d i (b::w)=LN d (dl d i (cls d b)) w:=by
 unfold LN;by_cases a:i<d.f1.length
 ·rw[if_pos a];obtain⟨d1,r1,r2⟩:=Ho h a hb;rw[d1];by_cases c:0≤stp d (i:Int) (b:Int)
  ·rw[if_pos c,if_pos (by omega),Int.toNat_of_nonneg c];rfl
  ·rw[if_neg c,if_neg (by omega)];have:stp d (i:Int) (b:Int)= -1:=by omega
   show LL d (stp d (i:Int) (b:Int)) w=_;rw[this]
 ·rw[if_neg a,DG];have:dl d i (cls d b)=d.f1.length:=by unfold dl;rw[if_neg (fun q=>a q.1)]
  rw[this,if_neg (by omega),DG]
theorem QL {d:AI} (h:Dr d) {i j:Nat} (hi:i≤d.f1.length) (hj:j≤d.f1.length):f0 d i=f0 d j↔LN d i []=LN d j []:=by
 rw[H4 h hi,H4 h hj];have h1:=IP h (i:Int);have h2:=IP h (j:Int);unfold f0;omega
theorem HO {d:AI} (h:Dr d) {c:Nat} (hc:c<KC d):∃ b,b<256∧cls d b=c:=by
 have hk:=EC h;obtain⟨b,hb,eb⟩:=h.gap c (by omega);exact⟨b,hb,by unfold cls;rw[eb,Int.toNat_natCast]⟩
theorem SK {d:AI} (h:Dr d) {kk:Nat→ByteArray} (k:KN d kk) (s:Oj d kk) {i j:Nat} (hi:i≤d.f1.length) (hj:j≤d.f1.length):kk i=kk j↔∀ w,Bu w→LN d i w=LN d j w:=by
 constructor
 ·intro e w
  induction w generalizing i j with
  | nil=>intro _;exact(QL h hi hj).1 (k.mark i j hi hj e)
  | cons b w ih=>
    intro hw;have hb:=hw.hd;have hc:=(DB h hb).2;rw[CH h hi hb,CH h hj hb];exact ih (DS h hc) (DS h hc) (s i j hi hj e _ hc) hw.tl
 ·intro hl;refine k.bis (fun i j=>∀ w,Bu w→LN d i w=LN d j w) (fun i j hi hj hE=>⟨(QL h hi hj).2 (hE [] GO),fun c hc w hw=>?_⟩) i j hi hj hl;obtain⟨b,hb,ec⟩:=HO h hc;have:=hE (b::w) (Bu.cons hb hw);rw[CH h hi hb,CH h hj hb,ec]at this;exact this
def KS (d:AI):Nat→Nat→ByteArray
 | 0=>kr d (f0 d)
 | r+1=>kr d (ck (KS d r))
theorem L6 {d:AI} (h:Dr d):∀ r,KN d (KS d r)
 | 0=>ZJ h
 | r+1=>(UM h (L6 h r)).1
theorem Mo {d:AI} (h:Dr d):∀ (r:Nat) (i j:Nat),i≤d.f1.length→j≤d.f1.length→KS d r i≠KS d r j→∃ w,Bu w∧w.length≤r+1∧LN d i w≠LN d j w
 | 0,i,j,hi,hj,hne=>by
   by_cases e:f0 d i=f0 d j
   ·have:∃ c,c<KC d∧f0 d (dl d i c)≠f0 d (dl d j c):=by
     refine Classical.byContradiction fun q=>hne ((F8 h (fun i _=>RB h i) hi hj).2 ⟨e,fun c hc=>Classical.byContradiction fun u=>q ⟨c,hc,u⟩⟩)
    obtain⟨c,hc,hd⟩:=this;obtain⟨b,hb,ec⟩:=HO h hc;refine⟨[b],FB hb,Nat.le_refl _,?_⟩;rw[CH h hi hb,CH h hj hb,ec];exact fun u=>hd ((QL h (DS h hc) (DS h hc)).2 u)
   ·exact⟨[],GO,by simp,fun u=>e ((QL h hi hj).2 u)⟩
 | r+1,i,j,hi,hj,hne=>by
   by_cases e:KS d r i=KS d r j
   ·have:∃ c,c<KC d∧KS d r (dl d i c)≠KS d r (dl d j c):=by
     refine Classical.byContradiction fun q=>hne ((F8 h (Iz h (KS d r)) hi hj).2 ⟨C2 _ e,fun c hc=>C2 _ (Classical.byContradiction fun u=>q ⟨c,hc,u⟩)⟩)
    obtain⟨c,hc,hd⟩:=this;obtain⟨b,hb,ec⟩:=HO h hc;obtain⟨w,w1,w2,w3⟩:=Mo h r _ _ (DS h hc) (DS h hc) hd;refine⟨b::w,Bu.cons hb w1,by simp;omega,?_⟩;rw[CH h hi hb,CH h hj hb,ec];exact w3
   ·obtain⟨w,w1,w2,w3⟩:=Mo h r i j hi hj e;exact⟨w,w1,by omega,w3⟩
theorem Qo {d:AI} (h:Dr d):∀ r,(∀ q,q<r→nc (KS d q) (d.f1.length+1)≠nc (KS d (q+1)) (d.f1.length+1))→r+1≤nc (KS d r) (d.f1.length+1)
 | 0,_=>by
   have:=NL (kk:=KS d 0) (i:=0) (N:=d.f1.length+1) (by omega);omega
 | r+1,hq=>by
   have ih:=Qo h r fun q hr=>hq q (by omega);have h1:=hq r (by omega);have h2:=IY (UM h (L6 h r)).2 (d.f1.length+1);have h2':nc (KS d r) (d.f1.length+1)≤nc (KS d (r+1)) (d.f1.length+1):=h2;omega
theorem X3 {d:AI} (h:Dr d):∃ r,r≤d.f1.length∧Oj d (KS d r):=by
 have:∃ r,r≤d.f1.length∧nc (KS d r) (d.f1.length+1)=nc (KS d (r+1)) (d.f1.length+1):=by
  refine Classical.byContradiction fun q=>?_;have:=Qo h (d.f1.length+1) fun r hr e=>q ⟨r,by omega,e⟩;have:=Fv (KS d (d.f1.length+1)) (d.f1.length+1);omega
 obtain⟨r,r1,r2⟩:=this;refine⟨r,r1,fun i j hi hj e c hc=>?_⟩;have fine:=(UM h (L6 h r)).2;have e2:=Ki fine r2 (show i<d.f1.length+1 by omega) (show j<d.f1.length+1 by omega) e;have:=((F8 h (Iz h (KS d r)) hi hj).1 e2).2 c hc;exact JE.1 this
theorem NY {d:AI} (h:Dr d) {i j:Nat} (hi:i≤d.f1.length) (hj:j≤d.f1.length) (hw:∃ w,Bu w∧LN d i w≠LN d j w):∃ w,Bu w∧w.length≤d.f1.length+1∧LN d i w≠LN d j w:=by
 obtain⟨r,r1,r2⟩:=X3 h;obtain⟨w,w1,w2⟩:=hw;obtain⟨u,u1,u2,u3⟩:=Mo h r i j hi hj fun e=>w2 ((SK h (L6 h r) r2 hi hj).1 e w w1);exact⟨u,u1,by omega,u3⟩
theorem MH {α:Type} [Inhabited α] (l:List α) {i q:Nat} (x:α) (h:i<l.length):AA (AU l (i:Int) x) (q:Int)=if q=i then x else AA l (q:Int):=by
 unfold AA AU;rw[Int.toNat_natCast,Int.toNat_natCast,List.getD,List.getD];by_cases e:q=i
 ·rw[if_pos e,e,List.getElem?_set_self h];rfl
 ·rw[if_neg e,List.getElem?_set_ne (fun k=>e k.symm)]
theorem Us {α:Type} (l:List α) (i:Int) (x:α):(AU l i x).length=l.length:=by simp[AU]
def en (x:List (List Bool)) (i k:Nat):Bool:=AA (AA x (i:Int)) (k:Int)
def Vs (d:AI) (r i k:Nat):Prop:=∃ w,Bu w∧w.length≤r∧LN d i w≠LN d k w
structure AJ (d:AI) (r i k:Nat) (x:List (List Bool)):Prop where
 len:x.length=d.f1.length+1
 row:∀ a,a≤d.f1.length→(AA x (a:Int)).length=d.f1.length+1
 snd:∀ a b,a≤d.f1.length→b≤d.f1.length→en x a b=true→∃ w,Bu w∧LN d a w≠LN d b w
 cmp:∀ a b,a≤d.f1.length→b≤d.f1.length→Vs d r a b→en x a b=true
 don:∀ a b,a≤d.f1.length→b≤d.f1.length→(a<i∨(a=i∧b<k))→Vs d (r+1) a b→en x a b=true
theorem Lr {d:AI} (h:Dr d) {i c:Nat} (hi:i≤d.f1.length) (hc:c<KC d):Wq 20000 d (i:Int) (c:Int)=some (dl d i c:Int):=by
 have hk:=EC h;unfold Wq dl;by_cases a:(d.f1.length:Int)≤(i:Int)
 ·rw[if_pos a,Option.bind_some,if_pos rfl,if_neg (by omega)]
 ·have hr:=h.rowk (i:=(i:Int)) (by omega) (by omega);have gi:0≤(i:Int)∧(i:Int)<(d.f1.length:Int):=⟨by omega,by omega⟩;have gc:0≤(c:Int)∧(c:Int)<((AA d.f1 (i:Int)).length:Int):=⟨by omega,by omega⟩;rw[if_neg a,if_pos gi,if_pos gc,Option.bind_some];by_cases b:AA (AA d.f1 (i:Int)) (c:Int)<0
  ·rw[decide_eq_true b,if_pos rfl,if_neg (by omega)]
  ·rw[decide_eq_false b,if_neg (by decide),if_pos gi,if_pos gc,if_pos ⟨by omega,by omega⟩,Int.toNat_of_nonneg (by omega)]
theorem Xe {x:List (List Bool)} {i k:Nat} (hi:i<x.length) (hk:k<(AA x (i:Int)).length) (v:Bool) (a b:Nat):en (AU x (i:Int) (AU (AA x (i:Int)) (k:Int) v)) a b=if a=i∧b=k then v else en x a b:=by
 unfold en;rw[MH x _ hi];by_cases e:a=i
 ·rw[if_pos e,MH _ _ hk];by_cases f:b=k
  ·rw[if_pos f,if_pos ⟨e,f⟩]
  ·rw[if_neg f,if_neg fun q=>f q.2,e]
 ·rw[if_neg e,if_neg fun q=>e q.1]
theorem AJ.exit {d:AI} {r i k:Nat} {x:List (List Bool)} (j:AJ d r i k x) (hd:Vs d (r+1) i k→en x i k=true):AJ d r i (k+1) x:=
 ⟨j.len,j.row,j.snd,j.cmp,fun a b ha hb q t=>by
   by_cases e:a=i∧b=k
   ·rw[e.1,e.2]at t⊢;exact hd t
   ·exact j.don a b ha hb (by omega) t⟩
theorem TE {d:AI} (h:Dr d) (rec27:List (List Bool)→Int→Option (List (List Bool))) (r:Nat) {i k:Nat} (hi:i≤d.f1.length) (hk:k≤d.f1.length) (R:Option (List (List Bool))) (hR:∀ y,AJ d r i (k+1) y→rec27 y ((k+1:Nat):Int)=R):∀ (m c fuel:Nat) (x:List (List Bool)),c+m=KC d→m<fuel→AJ d r i k x→(∀ c',c'<c→Vs d r (dl d i c') (dl d k c')→en x i k=true)→
 FD 20000 rec27 d (i:Int) (k:Int) fuel x (c:Int)=R:=by
 intro m;have hn:=h.n2;have h1:=h.n1;have hK:=EC h;have hK2:=IM h;have r0:=h.rowk (i:=0) (by omega) (by omega);have g0:0≤(0:Int)∧(0:Int)<(d.f1.length:Int):=⟨by omega,by omega⟩
 induction m with
 | zero=>
   intro c fuel x hc hf hj hq;obtain⟨fu,rfl⟩:∃ fu,fuel=fu+1:=⟨fuel-1,by omega⟩;rw[FD.eq_2,if_pos g0,if_neg (by omega),Option.bind_some,if_neg (by decide)];unfold J9;rw[w6 (by omega) (by omega)];refine hR x (hj.exit ?_);rintro⟨w,w1,w2,w3⟩
   cases w with
   | nil=>exact hj.cmp i k hi hk ⟨[],GO,by simp,w3⟩
   | cons b w=>
     have hb:=w1.hd;rw[CH h hi hb,CH h hk hb]at w3;exact hq (cls d b) (by have:=(DB h hb).2;omega) ⟨w,w1.tl,by simp at w2;omega,w3⟩
 | succ m ih=>
   intro c fuel x hc hf hj hq;obtain⟨fu,rfl⟩:∃ fu,fuel=fu+1:=⟨fuel-1,by omega⟩;have hl:=hj.len;have hri:=hj.row i hi;have gi:0≤(i:Int)∧(i:Int)<(x.length:Int):=⟨by omega,by omega⟩;have gk:0≤(k:Int)∧(k:Int)<((AA x (i:Int)).length:Int):=⟨by omega,by omega⟩;rw[FD.eq_2,if_pos g0,if_pos (by omega),if_pos gi,if_pos gk,Option.bind_some]
   cases hb:AA (AA x (i:Int)) (k:Int)with
   | true=>
     rw[if_neg (by decide)];unfold J9;rw[w6 (by omega) (by omega)];exact hR x (hj.exit fun _=>hb)
   | false=>
     have hcK:c<KC d:=by omega
     have d1:=DS h (i:=i) hcK;have d2:=DS h (i:=k) hcK;have hrd:=hj.row _ d1;have hen:en x i k=false:=hb;rw[if_pos (by decide),if_pos gi,Lr h hi hcK,Option.bind_some,if_pos ⟨by omega,by omega⟩,Lr h hk hcK,Option.bind_some,if_pos ⟨by omega,by omega⟩,if_pos gk,w6 (by omega) (by omega)];have es:=Xe (x:=x) (i:=i) (k:=k) (by omega) (by omega) (AA (AA x (dl d i c:Int)) (dl d k c:Int));have this:=ih (c+1) fu (AU x (i:Int) (AU (AA x (i:Int)) (k:Int) (AA (AA x (dl d i c:Int)) (dl d k c:Int)))) (by omega) (by omega) ⟨by rw[Us];exact hl,fun a ha=>?_,fun a b ha hb2 he=>?_,fun a b ha hb2 ht=>?_,fun a b ha hb2 hlt ht=>?_⟩ (fun c' hc' ht=>?_)
     ·exact_mod_cast this
     ·rw[MH x _ (by omega)];by_cases e:a=i
      ·rw[if_pos e,Us];exact hri
      ·rw[if_neg e];exact hj.row a ha
     ·rw[es]at he;by_cases e:a=i∧b=k
      ·rw[if_pos e]at he;obtain⟨w,w1,w2⟩:=hj.snd _ _ d1 d2 he;obtain⟨y,y1,y2⟩:=HO h hcK;rw[e.1,e.2];refine⟨y::w,Bu.cons y1 w1,?_⟩;rw[CH h hi y1,CH h hk y1,y2];exact w2
      ·rw[if_neg e]at he;exact hj.snd a b ha hb2 he
     ·rw[es];by_cases e:a=i∧b=k
      ·rw[e.1,e.2]at ht;have:=hj.cmp i k hi hk ht;rw[hen]at this;cases this
      ·rw[if_neg e];exact hj.cmp a b ha hb2 ht
     ·rw[es];have e:¬ (a=i∧b=k):=by omega
      rw[if_neg e];exact hj.don a b ha hb2 hlt ht
     ·rw[es,if_pos ⟨rfl,rfl⟩];rcases Nat.lt_or_ge c' c with u|u
      ·have:=hq c' u ht;rw[hen]at this;cases this
      ·have:c'=c:=by omega
       subst this;exact hj.cmp _ _ d1 d2 ht
theorem NJ {d:AI} (h:Dr d) (rec19:List (List Bool)→Int→Option (List (List Bool))) (r:Nat) {i:Nat} (hi:i≤d.f1.length) (R:Option (List (List Bool))) (hR:∀ y,AJ d r (i+1) 0 y→rec19 y ((i+1:Nat):Int)=R):∀ (m k fuel:Nat) (x:List (List Bool)),k+m=d.f1.length+1→m<fuel→AJ d r i k x→
 FO 20000 rec19 d (i:Int) fuel x (k:Int)=R
 | 0,k,fu+1,x,hk,_,hj=>by
   have hn:=h.n2;rw[FO.eq_2,w6 (x:=(d.f1.length:Int)+1) (by omega) (by omega),if_neg (by omega)];unfold Ml;rw[w6 (by omega) (by omega)];exact hR x ⟨hj.len,hj.row,hj.snd,hj.cmp,fun a b ha hb q t=>hj.don a b ha hb (by omega) t⟩
 | m+1,k,fu+1,x,hk,hf,hj=>by
   have hn:=h.n2;have hK2:=IM h;rw[FO.eq_2,w6 (x:=(d.f1.length:Int)+1) (by omega) (by omega),if_pos (by omega)];exact TE h _ r hi (by omega) R (fun y hy=>NJ h rec19 r hi R hR m (k+1) fu y (by omega) (by omega) hy) (KC d) 0 20000 x (by omega) (by omega) hj (fun c' hc'=>by omega)
theorem Hd {d:AI} (h:Dr d) (rec11:List (List Bool)→Int→Option (List (List Bool))) (r:Nat) (hr:r≤10000) (R:Option (List (List Bool))) (hR:∀ y,AJ d (r+1) 0 0 y→rec11 y ((r+1:Nat):Int)=R):∀ (m i fuel:Nat) (x:List (List Bool)),i+m=d.f1.length+1→m<fuel→AJ d r i 0 x→
 EK 20000 rec11 d (r:Int) fuel x (i:Int)=R
 | 0,i,fu+1,x,hi,_,hj=>by
   have hn:=h.n2;rw[EK.eq_2,w6 (x:=(d.f1.length:Int)+1) (by omega) (by omega),if_neg (by omega)];unfold ME;rw[w6 (by omega) (by omega)];exact hR x ⟨hj.len,hj.row,hj.snd,fun a b ha hb t=>hj.don a b ha hb (by omega) t,fun a b ha hb q t=>by omega⟩
 | m+1,i,fu+1,x,hi,hf,hj=>by
   have hn:=h.n2;rw[EK.eq_2,w6 (x:=(d.f1.length:Int)+1) (by omega) (by omega),if_pos (by omega)];exact NJ h _ r (by omega) R (fun y hy=>Hd h rec11 r hr R hR m (i+1) fu y (by omega) (by omega) hy) (d.f1.length+1) 0 20000 x (by omega) (by omega) hj
structure AP (d:AI) (x:List (List Bool)):Prop where
 len:x.length=d.f1.length+1
 row:∀ a,a≤d.f1.length→(AA x (a:Int)).length=d.f1.length+1
 ap:∀ a b,a≤d.f1.length→b≤d.f1.length→(en x a b=true↔∃ w,Bu w∧LN d a w≠LN d b w)
theorem OK {d:AI} (h:Dr d):∀ (m r fuel:Nat) (x:List (List Bool)),r+m=d.f1.length+1→m<fuel→AJ d r 0 0 x→∃ y,D5 20000 d fuel x (r:Int)=some y∧AP d y
 | 0,r,fu+1,x,hr,_,hj=>by
   have hn:=h.n2;refine⟨x,?_,hj.len,hj.row,fun a b ha hb=>⟨hj.snd a b ha hb,fun hw=>?_⟩⟩
   ·rw[D5.eq_2,w6 (x:=(d.f1.length:Int)+1) (by omega) (by omega),if_neg (by omega)];rfl
   ·obtain⟨w,w1,w2,w3⟩:=NY h ha hb hw;exact hj.cmp a b ha hb ⟨w,w1,by omega,w3⟩
 | m+1,r,fu+1,x,hr,hf,hj=>by
   have hn:=h.n2;have ex:∃ R,EK 20000 (D5 20000 d fu) d (r:Int) 20000 x (0:Int)=R:=⟨_,rfl⟩;have key:∀ y,AJ d (r+1) 0 0 y→∃ z,D5 20000 d fu y ((r+1:Nat):Int)=some z∧AP d z:=fun y hy=>OK h m (r+1) fu y (by omega) (by omega) hy;rw[D5.eq_2,w6 (x:=(d.f1.length:Int)+1) (by omega) (by omega),if_pos (by omega)];have uniq:∀ y z,AP d y→AP d z→y=z:=by
    intro y z hy hz;refine List.ext_getElem (by rw[hy.len,hz.len]) fun a a1 a2=>?_;have ha:a≤d.f1.length:=by have:=hy.len;omega
    have ry:=hy.row a ha;have rz:=hz.row a ha;rw[Ae _ a a1]at ry;rw[Ae _ a a2]at rz;refine List.ext_getElem (by rw[ry,rz]) fun b b1 b2=>?_;have hb:b≤d.f1.length:=by omega
    have ey:=hy.ap a b ha hb;have ez:=hz.ap a b ha hb;rw[←ez]at ey;unfold en at ey;rw[Ae _ a a1,Ae _ a a2,Ae _ b b1,Ae _ b b2]at ey;exact Bool.eq_iff_iff.2 ey
   by_cases hex:∃ y,AJ d (r+1) 0 0 y
   ·obtain⟨y0,hy0⟩:=hex;obtain⟨z0,e0,p0⟩:=key y0 hy0;refine⟨z0,?_,p0⟩
    exact Hd h _ r (by omega) (some z0) (fun y hy=>by
     obtain⟨z,e1,p1⟩:=key y hy
     rw[e1,uniq z z0 p1 p0]) (d.f1.length+1) 0 20000 x (by omega) (by omega) hj
   ·exfalso;have:=Hd h (fun _ _=>none) r (by omega) (some []) (fun y hy=>absurd ⟨y,hy⟩ hex) (d.f1.length+1) 0 20000 x (by omega) (by omega) hj;have h2:=Hd h (fun _ _=>none) r (by omega) none (fun y hy=>rfl) (d.f1.length+1) 0 20000 x (by omega) (by omega) hj;rw[this]at h2;cases h2
theorem Oq (d:AI) (k:Nat) (s:Int):WE k d s=some (mk d s):=by
 unfold WE mk;by_cases a:s<0
 ·rw[if_pos a,Option.bind_some,if_pos rfl,if_pos (.inl a)]
 ·rw[if_neg a,Option.bind_some];by_cases b:(d.f2.length:Int)≤s
  ·rw[decide_eq_true b,if_pos rfl,if_pos (.inr b)]
  ·rw[decide_eq_false b,if_neg (by decide),if_pos ⟨by omega,by omega⟩,if_neg (by omega)]
theorem K3 {d:AI} (h:Dr d) (rec54:List (List Bool)→Int→Option (List (List Bool))) (X:List (List Bool)) (hX:X.length≤2000) {i:Nat} (hi:i≤d.f1.length):∀ (m k fuel:Nat) (x:List Bool),k+m=d.f1.length+1→m<fuel→x.length=d.f1.length+1→(∀ q:Nat,q<k→AA x (q:Int)=decide (mk d (i:Int)≠mk d (q:Int)))→
 ∃ y:List Bool,y.length=d.f1.length+1∧(∀ q:Nat,q≤d.f1.length→AA y (q:Int)=decide (mk d (i:Int)≠mk d (q:Int)))∧C1 20000 rec54 d X (i:Int) fuel x (k:Int)=rec54 (X++[y]) ((i+1:Nat):Int)
 | 0,k,fu+1,x,hk,_,hx,hq=>by
   have hn:=h.n2;refine⟨x,hx,fun q q1=>hq q (by omega),?_⟩;rw[C1.eq_2,w6 (x:=(d.f1.length:Int)+1) (by omega) (by omega),if_neg (by omega)];unfold Iw MQ;rw[if_pos (by simp;omega),w6 (by omega) (by omega)];rfl
 | m+1,k,fu+1,x,hk,hf,hx,hq=>by
   have hn:=h.n2
   obtain⟨y,y1,y2,y3⟩:=K3 h rec54 X hX hi m (k+1) fu (AU x (k:Int) (decide (mk d (i:Int)≠mk d (k:Int)))) (by omega) (by omega) (by rw[Us];exact hx) (fun q q1=>by
    rw[MH x _ (by omega)];by_cases e:q=k
    ·rw[if_pos e,e]
    ·rw[if_neg e];exact hq q (by omega))
   refine⟨y,y1,y2,?_⟩;rw[C1.eq_2,w6 (x:=(d.f1.length:Int)+1) (by omega) (by omega),if_pos (by omega),Oq,Oq,Option.bind_some,Option.bind_some,if_pos ⟨by omega,by omega⟩,w6 (by omega) (by omega)];exact_mod_cast y3
theorem Kw {d:AI} (h:Dr d):∀ (m i fuel:Nat) (X:List (List Bool)),i+m=d.f1.length+1→m<fuel→X.length=i→(∀ a:Nat,a<i→(AA X (a:Int)).length=d.f1.length+1∧∀ b:Nat,b≤d.f1.length→en X a b=decide (mk d (a:Int)≠mk d (b:Int)))→
 ∃ y,Cr 20000 d fuel X (i:Int)=some y∧AP d y
 | 0,i,fu+1,X,hi,_,hX,hq=>by
   have hn:=h.n2;rw[Cr.eq_2,w6 (x:=(d.f1.length:Int)+1) (by omega) (by omega),if_neg (by omega)];unfold L5;refine OK h (d.f1.length+1) 0 20000 X (by omega) (by omega) ⟨by omega,fun a ha=>(hq a (by omega)).1,fun a b ha hb he=>?_,fun a b ha hb ht=>?_,fun a b ha hb q t=>by omega⟩
   ·rw[(hq a (by omega)).2 b hb,decide_eq_true_eq]at he;exact⟨[],GO,by rw[H4 h ha,H4 h hb];exact he⟩
   ·obtain⟨w,w1,w2,w3⟩:=ht;have:w=[]:=List.eq_nil_of_length_eq_zero (by omega);subst this;rw[H4 h ha,H4 h hb]at w3;rw[(hq a (by omega)).2 b hb,decide_eq_true_eq];exact w3
 | m+1,i,fu+1,X,hi,hf,hX,hq=>by
   have hn:=h.n2;rw[Cr.eq_2,w6 (x:=(d.f1.length:Int)+1) (by omega) (by omega),if_pos (by omega),if_pos ⟨by omega,by omega,by omega⟩];have et:((d.f1.length:Int)+1).toNat=d.f1.length+1:=by omega
   rw[et];obtain⟨y,y1,y2,y3⟩:=K3 h (Cr 20000 d fu) X (by omega) (i:=i) (by omega) (d.f1.length+1) 0 20000 (List.replicate (d.f1.length+1) false) (by omega) (by omega) (by simp) (fun q q1=>by omega);have y3:C1 20000 _ d X (i:Int) 20000 _ (0:Int)=_:=y3;rw[y3];refine Kw h m (i+1) fu (X++[y]) (by omega) (by omega) (by simp[hX]) fun a ha=>?_;rcases Nat.lt_or_ge a i with u|u
   ·have e:AA (X++[y]) (a:Int)=AA X (a:Int):=by rw[Ae _ a (by simp;omega),Ae _ a (by omega),List.getElem_append_left]
    have:=hq a u;unfold en at this⊢
    rw[e];exact this
   ·have:a=i:=by omega
    subst this;have e:AA (X++[y]) (a:Int)=y:=by
     rw[Ae _ a (by simp[hX])];rw[List.getElem_append_right (by omega)];simp[hX]
    unfold en;rw[e];exact⟨y1,y2⟩
theorem Uj {d:AI} (h:Dr d):∃ y,ao 20000 d=some y∧AP d y:=
 Kw h (d.f1.length+1) 0 20000 [] (by omega) (by have:=h.n2;omega) rfl fun a ha=>by omega
end Go.Avl.T8
