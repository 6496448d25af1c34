/- Parts: T7D5, T7K2, T7K3, T7K4, T7K5, T7K6, T7K7, T7K8, T7K9, T7K10, T7K11, T7K12, T7K13, T7K14, T7K15, T7K16, T7K17, T7K18, T7K19, T7L1, T7L2, T7L3. -/
import Derived.Test.YtpkgpmmcbpfenaaAM3
import Derived.Test.YtpkgpmmcbpfenaaAF4
import Derived.Test.YtpkgpmmcbpfenaaAM2
import Derived.Test.YtpkgpmmcbpfenaaAv3
import Derived.Test.YtpkgpmmcbpfenaaAF5
import Derived.Test.YtpkgpmmcbpfenaaAF6
import Derived.Test.YtpkgpmmcbpfenaaAF8
namespace Go.Avl.T7
open Go Go.RowKit Go.Proofs Go.Avl
set_option linter.all false
set_option maxRecDepth 10000
def rn (d:S55) (q:Int) (s:ByteArray):Nat→Int
 | 0=>q
 | i+1=>stp d (rn d q s i) (byteAt s i)
def hs (d:S55) (s:ByteArray):Int:=mk d (rn d 0 s s.size)
theorem stp_in {d:S55} (h:Dr d) {q c:Int} (h0:0≤q) (h1:q<(d.f1.length:Int)) (c0:0≤c) (c1:c<256):
 0≤vget d.f0 c∧vget d.f0 c<((rw' d q).length:Int)∧stp d q c=lget (rw' d q) (vget d.f0 c):=by
 obtain⟨b,rfl⟩:=Int.eq_ofNat_of_zero_le c0
 have hk:=h.rowk h0 h1
 have hb:=h.vb (b:Int)
 have hl:=kcl_lt (v:=d.f0) (b:=b) (by omega)
 have hlt:vget d.f0 (b:Int)<((rw' d q).length:Int):=by show _<((lget d.f1 q).length:Int);omega
 refine⟨hb.1,hlt,?_⟩
 have hlt':vget d.f0 (b:Int)<((lget d.f1 q).length:Int):=hlt
 unfold stp
 rw[if_neg (by omega)]
theorem stp_rng {d:S55} (h:Dr d) {q c:Int} (hq: -1≤q∧q<(d.f1.length:Int)) (c0:0≤c) (c1:c<256): -1≤stp d q c∧stp d q c<(d.f1.length:Int):=by
 have h1:=h.n1
 by_cases a:q= -1
 ·rw[a,stp_neg];omega
 ·obtain⟨k1,k2,k3⟩:=stp_in h (q:=q) (c:=c) (by omega) (by omega) c0 c1
  rw[k3]
  exact h.ent _ (mem_lget (by omega) hq.2) _ (mem_lget k1 k2)
theorem rn_rng {d:S55} (h:Dr d) {q:Int} (hq: -1≤q∧q<(d.f1.length:Int)) (s:ByteArray):∀ i, -1≤rn d q s i∧rn d q s i<(d.f1.length:Int)
 | 0=>hq
 | i+1=>by
   have hu:=byteAt_u8 s i
   rw[rn];exact stp_rng h (rn_rng h hq s i) hu.1 (by omega)
theorem mk_ge {d:S55} (h:Dr d) (q:Int): -1≤mk d q∧mk d q<32768:=by
 unfold mk
 split
 ·omega
 ·exact h.mark _ (mem_lget (by omega) (by omega))
theorem TRM_row {d:S55} (A:List Bool) {q:Int} (h0:0≤q) (h1:q<(d.f1.length:Int)):rw' (TRM d A) q=(rw' d q).map (tr A):=by
 obtain⟨j,rfl⟩:=Int.eq_ofNat_of_zero_le h0
 show lget (d.f1.map fun r=>r.map (tr A)) (j:Int)=(lget d.f1 (j:Int)).map (tr A)
 rw[lget_lt _ j (by simp;omega),lget_lt _ j (by omega),List.getElem_map]
theorem TRM_Dr {d:S55} (h:Dr d) (A:List Bool):Dr (TRM d A):=by
 have hl:(TRM d A).f1.length=d.f1.length:=by show (d.f1.map _).length=_;rw[List.length_map]
 have h1:=h.n1
 refine⟨by rw[hl];exact h.n1,by rw[hl];exact h.n2,by rw[hl];exact h.ml,h.vb,h.gap,fun r hr=>?_,fun r hr x hx=>?_,h.mark⟩
 ·obtain⟨r',hr',rfl⟩:=List.mem_map.1 (show r∈d.f1.map fun r=>r.map (tr A)from hr)
  rw[List.length_map];exact h.row r' hr'
 ·obtain⟨r',hr',rfl⟩:=List.mem_map.1 (show r∈d.f1.map fun r=>r.map (tr A)from hr)
  obtain⟨y,hy,rfl⟩:=List.mem_map.1 hx
  have:=h.ent r' hr' y hy
  rw[hl]
  unfold tr
  split
  ·omega
  ·exact this
theorem lget_map {α β:Type} [Inhabited α] [Inhabited β] (f:α→β) (l:List α) {i:Int} (h0:0≤i) (h1:i<(l.length:Int)):lget (l.map f) i=f (lget l i):=by
 obtain⟨j,rfl⟩:=Int.eq_ofNat_of_zero_le h0
 rw[lget_lt _ j (by simp;omega),lget_lt _ j (by omega),List.getElem_map]
theorem AL_back {d:S55} (h:Dr d) {q c:Int} (h0:0≤q) (h1:q<(d.f1.length:Int)) (c0:0≤c) (c1:c<256) (hn:0≤stp d q c) (k:AL d (stp d q c)):AL d q:=by
 obtain⟨k1,k2,k3⟩:=stp_in h h0 h1 c0 c1
 obtain⟨r,r1,r2⟩:=k
 rw[k3]at hn r1
 obtain⟨b,hb⟩:=Int.eq_ofNat_of_zero_le k1
 rw[hb]at hn r1 k2
 exact⟨r,(DR.step .refl k2 hn).trans r1,r2⟩
theorem trim_sim {d:S55} (h:Dr d) {A:List Bool} (hA:AS d A) (s:ByteArray):∀ i,rn (TRM d A) 0 s i=rn d 0 s i∨(rn (TRM d A) 0 s i= -1∧(rn d 0 s i= -1∨¬ AL d (rn d 0 s i)))
 | 0=>.inl rfl
 | i+1=>by
   have hu:=byteAt_u8 s i
   have h1:=h.n1
   have hr:=rn_rng h (q:=0) (by omega) s i
   have hr':=rn_rng h (q:=0) (by omega) s (i+1)
   have hl:(TRM d A).f1.length=d.f1.length:=by show (d.f1.map _).length=_;rw[List.length_map]
   rcases trim_sim h hA s i with e|⟨e1,e2⟩
   ·by_cases a:rn d 0 s i= -1
    ·left;rw[rn,rn,e,a,stp_neg,stp_neg]
    ·obtain⟨k1,k2,k3⟩:=stp_in h (q:=rn d 0 s i) (c:=byteAt s i) (by omega) hr.2 hu.1 (by omega)
     obtain⟨m1,m2,m3⟩:=stp_in (TRM_Dr h A) (q:=rn d 0 s i) (c:=byteAt s i) (by omega) (by rw[hl];exact hr.2) hu.1 (by omega)
     have hst:stp (TRM d A) (rn d 0 s i) (byteAt s i)=tr A (stp d (rn d 0 s i) (byteAt s i)):=by
      rw[m3,k3,TRM_row A (by omega) hr.2]
      exact lget_map (tr A) _ k1 k2
     have hrg:=stp_rng h hr hu.1 (c:=byteAt s i) (by omega)
     rw[rn,rn,e,hst]
     unfold tr
     split
     ·rename_i c
      right
      refine⟨rfl,.inr fun k=>?_⟩
      have:=(hA.2 _ c.1 hrg.2).2 k
      rw[c.2]at this;cases this
     ·exact .inl rfl
   ·right
    refine⟨by rw[rn,e1,stp_neg],?_⟩
    rcases e2 with e2|e2
    ·left;rw[rn,e2,stp_neg]
    ·by_cases a:rn d 0 s i= -1
     ·left;rw[rn,a,stp_neg]
     ·have hrg:=stp_rng h hr hu.1 (c:=byteAt s i) (by omega)
      by_cases b:stp d (rn d 0 s i) (byteAt s i)= -1
      ·left;rw[rn,b]
      ·right
       rw[rn]
       intro k
       exact e2 (AL_back h (by omega) hr.2 hu.1 (by omega) (by omega) k)
theorem trim_has {d:S55} (h:Dr d) {A:List Bool} (hA:AS d A) (s:ByteArray):hs (TRM d A) s=hs d s:=by
 unfold hs
 rcases trim_sim h hA s s.size with e|⟨e1,e2⟩
 ·rw[e];rfl
 ·rw[e1,mk_neg]
  rcases e2 with e2|e2
  ·rw[e2,mk_neg]
  ·have:=(mk_ge h (rn d 0 s s.size)).1
   by_cases a:0≤mk d (rn d 0 s s.size)
   ·exact absurd ⟨_,.refl,a⟩ e2
   ·omega
theorem ORD_len (d:S55):(ORD d).f1.length=(OL d).length:=by show ((OL d).map _).length=_;rw[List.length_map]
theorem pl_lt {L:List Int} (x:Int): -1≤pl L x∧pl L x<(L.length:Int):=by
 by_cases h:x∈L
 ·obtain⟨j,j1,j2,_⟩:=pl_get h;omega
 ·rw[pl_not h];omega
theorem ORD_Dr {d:S55} (h:Dr d):Dr (ORD d):=by
 have hO:=OL_OI h
 have hl:=ORD_len d
 have hlen:=hO.len
 have hn:=h.n2
 have hm:=h.ml
 obtain⟨m,hm0⟩:=hO.hd
 refine⟨by rw[hl,hm0];simp,by rw[hl];omega,by rw[hl];show ((OL d).map _).length=_;rw[List.length_map],h.vb,h.gap,fun r hr=>?_,fun r hr x hx=>?_,fun m hm=>?_⟩
 ·obtain⟨q,hq,rfl⟩:=List.mem_map.1 (show r∈(OL d).map fun q=>(rw' d q).map (pl (OL d))from hr)
  have:=hO.rng q hq
  rw[List.length_map];exact h.rowk this.1 this.2
 ·obtain⟨q,hq,rfl⟩:=List.mem_map.1 (show r∈(OL d).map fun q=>(rw' d q).map (pl (OL d))from hr)
  obtain⟨y,hy,rfl⟩:=List.mem_map.1 hx
  rw[hl];exact pl_lt y
 ·obtain⟨q,hq,rfl⟩:=List.mem_map.1 (show m∈(OL d).map fun q=>lget d.f2 q from hm)
  have:=hO.rng q hq
  exact h.mark _ (mem_lget this.1 (by omega))
theorem ORD_row {d:S55} {q:Int} (hq:q∈OL d):rw' (ORD d) (pl (OL d) q)=(rw' d q).map (pl (OL d)):=by
 obtain⟨j,j1,j2,j3⟩:=pl_get hq
 rw[j2]
 show lget ((OL d).map fun q=>(rw' d q).map (pl (OL d))) (j:Int)=_
 rw[lget_map _ _ (by omega) (by omega),j3]
theorem ORD_mk {d:S55} (h:Dr d) {q:Int} (hq:q∈OL d):mk (ORD d) (pl (OL d) q)=mk d q:=by
 have hr:=(OL_OI h).rng q hq
 have hm:=h.ml
 obtain⟨j,j1,j2,j3⟩:=pl_get hq
 have hl:=ORD_len d
 have h1:(0:Int)≤(j:Int):=by omega
 rw[mk_in (ORD_Dr h) (by omega) (by rw[hl];omega),mk_in h hr.1 hr.2,j2]
 show lget ((OL d).map fun q=>lget d.f2 q) (j:Int)=_
 rw[lget_map _ _ (by omega) (by omega),j3]
theorem ORD_stp {d:S55} (h:Dr d) {q c:Int} (hq:q∈OL d) (c0:0≤c) (c1:c<256):stp (ORD d) (pl (OL d) q) c=pl (OL d) (stp d q c)∧(stp d q c= -1∨stp d q c∈OL d):=by
 have hO:=OL_OI h
 have hr:=hO.rng q hq
 obtain⟨k1,k2,k3⟩:=stp_in h hr.1 hr.2 c0 c1
 obtain⟨j,j1,j2,j3⟩:=pl_get hq
 have hl:=ORD_len d
 obtain⟨m1,m2,m3⟩:=stp_in (ORD_Dr h) (q:=pl (OL d) q) (c:=c) (by omega) (by rw[hl];omega) c0 c1
 refine⟨?_,?_⟩
 ·rw[m3,k3,ORD_row hq]
  exact lget_map (pl (OL d)) _ k1 k2
 ·have hrg:=stp_rng h (q:=q) (c:=c) (by omega) c0 c1
  by_cases a:stp d q c= -1
  ·exact .inl a
  ·right
   have:=hO.cls j (by omega) (stp d q c) (by rw[j3,k3];exact mem_lget k1 k2) (by omega)
   exact this
theorem ORD_zero {d:S55} (h:Dr d):(0:Int)∈OL d∧pl (OL d) 0=0:=by
 obtain⟨m,hm⟩:=(OL_OI h).hd
 rw[hm]
 exact⟨by simp,rfl⟩
theorem order_sim {d:S55} (h:Dr d) (s:ByteArray):∀ i,rn (ORD d) 0 s i=pl (OL d) (rn d 0 s i)∧(rn d 0 s i= -1∨rn d 0 s i∈OL d)
 | 0=>by
   obtain⟨z1,z2⟩:=ORD_zero h
   exact⟨z2.symm,.inr z1⟩
 | i+1=>by
   have hu:=byteAt_u8 s i
   obtain⟨i1,i2⟩:=order_sim h s i
   have hneg:pl (OL d) (-1)= -1:=pl_not fun k=>by have:=((OL_OI h).rng _ k).1;omega
   rcases i2 with e|e
   ·rw[rn,rn,i1,e,hneg,stp_neg,stp_neg]
    exact⟨hneg.symm,.inl rfl⟩
   ·rw[rn,rn,i1]
    exact ORD_stp h e hu.1 (by omega)
theorem order_has {d:S55} (h:Dr d) (s:ByteArray):hs (ORD d) s=hs d s:=by
 unfold hs
 obtain⟨i1,i2⟩:=order_sim h s s.size
 rw[i1]
 rcases i2 with e|e
 ·have hneg:pl (OL d) (-1)= -1:=pl_not fun k=>by have:=((OL_OI h).rng _ k).1;omega
  rw[e,hneg,mk_neg,mk_neg]
 ·exact ORD_mk h e
def wd2 (v:Nat):List Int:=[((v / 256:Nat):Int),((v%256:Nat):Int)]
def enc2:List Nat→List Int
 | []=>[]
 | v::l=>wd2 v++enc2 l
theorem enc2_app:∀ (l m:List Nat),enc2 (l++m)=enc2 l++enc2 m
 | [],_=>rfl
 | v::l,m=>by show wd2 v++enc2 (l++m)=(wd2 v++enc2 l)++enc2 m;rw[enc2_app l m,List.append_assoc]
theorem enc2_len:∀ l:List Nat,(enc2 l).length=2*l.length
 | []=>rfl
 | v::l=>by show (wd2 v++enc2 l).length=_;rw[List.length_append,enc2_len l];simp[wd2];omega
theorem enc2_rng:∀ {l:List Nat},(∀ v∈l,v<65536)→∀ x∈enc2 l,0≤x∧x≤255
 | v::l,h,x,hx=>by
   have hv:=h v (by simp)
   rcases List.mem_append.1 (show x∈wd2 v++enc2 l from hx)with hx|hx
   ·simp only[wd2,List.mem_cons,List.not_mem_nil,or_false]at hx
    rcases hx with rfl|rfl<;>omega
   ·exact enc2_rng (fun w hw=>h w (by simp[hw])) x hx
theorem enc2_inj:∀ {l m:List Nat},enc2 l=enc2 m→l=m
 | [],[],_=>rfl
 | [],v::m,h=>by cases h
 | v::l,[],h=>by cases h
 | v::l,u::m,h=>by
   have h':((v / 256:Nat):Int)::((v%256:Nat):Int)::enc2 l=((u / 256:Nat):Int)::((u%256:Nat):Int)::enc2 m:=h
   obtain⟨h1,h2⟩:=List.cons.inj h'
   obtain⟨h2,h3⟩:=List.cons.inj h2
   rw[enc2_inj h3,show v=u by omega]
theorem strOf_app (a b:List Int):strOfNums (a++b)=strOfNums a++strOfNums b:=by
 apply ByteArray.ext;apply Array.ext';simp[strOfNums]
theorem strOf_size (a:List Int):(strOfNums a).size=a.length:=by simp[strOfNums,ByteArray.size]
theorem mword_eq {v:Nat} (hv:v<65536):F127 5000 (v:Int)=some (strOfNums (wd2 v)):=by
 unfold F127
 have e1:w8 (Int.fdiv (v:Int) (2 ^ (min (8:Int).toNat IntKind.i64.bits)))=((v / 256:Nat):Int):=by
  have h1:Int.fdiv (v:Int) (2 ^ (min (8:Int).toNat IntKind.i64.bits))=((v / 256:Nat):Int):=by
   show Int.fdiv (v:Int) 256=_
   rw[Int.fdiv_eq_ediv_of_nonneg _ (by decide)];omega
  rw[h1,w8_id (by omega) (by omega)]
 have e2:w8 (v:Int)=((v%256:Nat):Int):=by
  rw[w8_eq];omega
 rw[e1,e2];rfl
def dl (d:S55) (i c:Nat):Nat:=if i<d.f1.length∧0≤lget (lget d.f1 (i:Int)) (c:Int)then(lget (lget d.f1 (i:Int)) (c:Int)).toNat else d.f1.length
def KC (d:S55):Nat:=(kcl d.f0).toNat
def KL (d:S55) (f:Nat→Nat) (i:Nat):List Nat:=f i::(List.range (KC d)).map fun c=>f (dl d i c)
def OFL (d:S55) (p:List Int) (f:Nat→Nat):Prop:=p.length=d.f1.length+1∧∀ i:Nat,i≤d.f1.length→lget p (i:Int)=(f i:Int)∧f i<65536
theorem KC_eq {d:S55} (h:Dr d):kcl d.f0=(KC d:Int):=by
 have:=kc_rng h.vb 256
 have e:kcl d.f0=kc d.f0 256:=rfl
 unfold KC;omega
theorem dl_le {d:S55} (h:Dr d) {i c:Nat} (hc:c<KC d):dl d i c≤d.f1.length:=by
 unfold dl
 split
 ·next q=>
  have hr:lget d.f1 (i:Int)∈d.f1:=mem_lget (by omega) (by omega)
  have hl:=h.row _ hr
  have hk:=KC_eq h
  have:=h.ent _ hr _ (mem_lget (l:=lget d.f1 (i:Int)) (i:=(c:Int)) (by omega) (by omega))
  omega
 ·exact Nat.le_refl _
theorem row_l {d:S55} (h:Dr d) {p:List Int} {f:Nat→Nat} (hp:OFL d p f) {i:Nat} (hi:i≤d.f1.length):∀ (m c fuel:Nat) (l:List Nat),c+m=KC d→m<fuel→l.length≤2000+c→F126_l2 5000 d p (i:Int) (kcl d.f0) fuel (strOfNums (enc2 l)) (c:Int)=some (strOfNums (enc2 (l++((List.range (KC d)).drop c).map fun c=>f (dl d i c))))
 | 0,c,fu+1,l,hc,_,_=>by
   have hk:=KC_eq h
   rw[F126_l2.eq_2,if_neg (by omega),List.drop_of_length_le (by simp;omega),List.map_nil,List.append_nil];rfl
 | m+1,c,fu+1,l,hc,hf,hl=>by
   have hk:=KC_eq h
   have hkb:KC d≤256:=by
    have:=kc_rng h.vb 256
    have e:kcl d.f0=kc d.f0 256:=rfl
    unfold KC;omega
   have hd:=dl_le h (i:=i) (c:=c) (by omega)
   obtain⟨g1,g2⟩:=hp.2 _ hd
   have hpl:=hp.1
   have hn:=h.n2
   have hw:=mword_eq g2
   have hc':c<(List.range (KC d)).length:=by simp;omega
   have ih:=row_l h hp hi m (c+1) fu (l++[f (dl d i c)]) (by omega) (by omega) (by simp;omega)
   have go:F126_c1 5000 (F126_l2 5000 d p (i:Int) (kcl d.f0) fu) p (strOfNums (enc2 l)) (c:Int) ((dl d i c:Nat):Int)=some (strOfNums (enc2 (l++((List.range (KC d)).drop c).map fun c=>f (dl d i c)))):=by
    unfold F126_c1
    rw[if_pos ⟨by omega,by omega⟩,g1,hw,Option.bind_some,if_pos (by rw[strOf_size,strOf_size,enc2_len];simp[wd2];omega),w6 (by omega) (by omega), ←strOf_app]
    have e:enc2 l++wd2 (f (dl d i c))=enc2 (l++[f (dl d i c)]):=by rw[enc2_app];rfl
    rw[e,List.drop_eq_getElem_cons hc',List.map_cons,List.getElem_range]
    rw[List.append_assoc]at ih
    exact_mod_cast ih
   rw[F126_l2.eq_2,if_pos (by omega)]
   by_cases a:i<d.f1.length
   ·have hr:lget d.f1 (i:Int)∈d.f1:=mem_lget (by omega) (by omega)
    have hrl:=h.row _ hr
    have c1:0≤(i:Int)∧(i:Int)<(d.f1.length:Int):=⟨by omega,by omega⟩
    have c2:0≤(c:Int)∧(c:Int)<((lget d.f1 (i:Int)).length:Int):=⟨by omega,by omega⟩
    rw[if_pos c1.2,if_pos c1,if_pos c2,Option.bind_some]
    by_cases b:(0:Int)≤lget (lget d.f1 (i:Int)) (c:Int)
    ·have e:lget (lget d.f1 (i:Int)) (c:Int)=((dl d i c:Nat):Int):=by unfold dl;rw[if_pos ⟨a,b⟩];omega
     rw[if_pos (decide_eq_true b),if_pos c1,if_pos c2,e];exact go
    ·have e:(d.f1.length:Int)=((dl d i c:Nat):Int):=by unfold dl;rw[if_neg (fun q=>b q.2)]
     rw[if_neg (by simpa using b)]
     conv=>lhs;arg 6;rw[e]
     exact go
   ·have e:(d.f1.length:Int)=((dl d i c:Nat):Int):=by unfold dl;rw[if_neg (fun q=>a q.1)]
    rw[if_neg (by omega),Option.bind_some,if_neg (by decide)]
    conv=>lhs;arg 6;rw[e]
    exact go
theorem mrow_eq {d:S55} (h:Dr d) {p:List Int} {f:Nat→Nat} (hp:OFL d p f) {i:Nat} (hi:i≤d.f1.length):F126 5000 d p (i:Int)=some (strOfNums (enc2 (KL d f i))):=by
 have hpl:=hp.1
 obtain⟨g1,g2⟩:=hp.2 i hi
 unfold F126
 rw[if_pos ⟨by omega,by omega⟩,g1,mword_eq g2,Option.bind_some,count_eq h.vb,Option.bind_some]
 have hkb:KC d≤256:=by
  have:=kc_rng h.vb 256
  have e:kcl d.f0=kc d.f0 256:=rfl
  unfold KC;omega
 have:=row_l h hp hi (KC d) 0 5000 [f i] (by omega) (by omega) (by simp)
 rw[Int.natCast_zero,List.drop_zero]at this
 exact this
theorem mapok_new {kk:Nat→ByteArray} {b:Nat} {m:List (ByteArray×Int)} (h:MapOK kk b m) (q:rc kk b=b):mget m (kk b)=none∧(m.length:Int)=(ck kk b:Int)∧MapOK kk (b+1) (mput m (kk b) (ck kk b:Int)):=by
 obtain⟨r1,r2,r3⟩:=rc_spec kk b
 obtain⟨m1,m2,m3⟩:=h
 have hn:mget m (kk b)=none:=m3 _ (fun c hc=>r3 c (by omega))
 have hc:ck kk b=nc kk b:=by unfold ck;rw[q]
 refine⟨hn,by rw[m1,hc],?_,fun c hc'=>?_,fun s hs=>?_⟩
 ·rw[mput_none hn,List.length_append,m1,nc,if_pos q];rfl
 ·rw[mget_mput]
  by_cases r:c=b
  ·subst r;rw[if_pos rfl]
  ·rw[if_neg (fun h=>r3 c (by omega) h.symm),m2 c (by omega)]
 ·rw[mget_mput,if_neg (hs b (by omega)),m3 s (fun c hc=>hs c (by omega))]
theorem mapok_old {kk:Nat→ByteArray} {b:Nat} {m:List (ByteArray×Int)} (h:MapOK kk b m) (q:rc kk b≠b):mget m (kk b)=some (ck kk b:Int)∧MapOK kk (b+1) m:=by
 obtain⟨r1,r2,r3⟩:=rc_spec kk b
 obtain⟨m1,m2,m3⟩:=h
 have hg:mget m (kk b)=some (ck kk b:Int):=by rw[←r2,m2 _ (by omega),ck_same kk r2]
 refine⟨hg,by rw[m1,nc,if_neg q];rfl,fun c hc'=>?_,fun s hs=>m3 s (fun c hc=>hs c (by omega))⟩
 by_cases r:c=b
 ·subst r;exact hg
 ·exact m2 c (by omega)
theorem ilget_lset (l:List Int) (i q:Int) (x:Int) (h0:0≤i) (h1:i<(l.length:Int)) (hq:0≤q):lget (lset l i x) q=if q=i then x else lget l q:=by
 unfold lget lset
 rw[List.getD,List.getD,List.getElem?_set]
 by_cases e:i.toNat=q.toNat
 ·rw[if_pos e,if_pos (by omega),if_pos (by omega)];rfl
 ·rw[if_neg e,if_neg (by omega)]
def kr (d:S55) (f:Nat→Nat) (i:Nat):ByteArray:=if i≤d.f1.length then strOfNums (enc2 (KL d f i))else ByteArray.mk #[]
theorem kr_iff {d:S55} (h:Dr d) {f:Nat→Nat} (hf:∀ i,i≤d.f1.length→f i<65536) {i j:Nat} (hi:i≤d.f1.length) (hj:j≤d.f1.length):kr d f i=kr d f j↔f i=f j∧∀ c,c<KC d→f (dl d i c)=f (dl d j c):=by
 have rng:∀ i,i≤d.f1.length→∀ v∈KL d f i,v<65536:=by
  intro i hi v hv
  rcases List.mem_cons.1 hv with rfl|hv
  ·exact hf i hi
  ·obtain⟨c,hc,rfl⟩:=List.mem_map.1 hv
   exact hf _ (dl_le h (List.mem_range.1 hc))
 unfold kr
 rw[if_pos hi,if_pos hj]
 constructor
 ·intro e
  have e:=enc2_inj (strOf_inj (enc2_rng (rng i hi)) (enc2_rng (rng j hj)) e)
  obtain⟨e1,e2⟩:=List.cons.inj e
  refine⟨e1,fun c hc=>?_⟩
  exact List.map_inj_left.1 e2 c (List.mem_range.2 hc)
 ·rintro⟨e1,e2⟩
  have:KL d f i=KL d f j:=by
   unfold KL
   rw[e1]
   congr 1
   exact List.map_inj_left.2 fun c hc=>e2 c (List.mem_range.1 hc)
  rw[this]
theorem kr_out {d:S55} {f:Nat→Nat} {i j:Nat} (hi:i≤d.f1.length) (hj:¬ j≤d.f1.length):kr d f i≠kr d f j:=by
 unfold kr
 rw[if_pos hi,if_neg hj]
 intro e
 have:=congrArg ByteArray.size e
 rw[strOf_size,enc2_len]at this
 have z:(ByteArray.mk #[]).size=0:=rfl
 rw[z]at this
 simp[KL]at this
theorem split_l {d:S55} (h:Dr d) {p:List Int} {f:Nat→Nat} (hp:OFL d p f):∀ (m i fuel:Nat) (mp:List (ByteArray×Int)) (x:List Int),i+m=d.f1.length+1→m<fuel→MapOK (kr d f) i mp→x.length=d.f1.length+1→(∀ j:Nat,j<i→lget x (j:Int)=(ck (kr d f) j:Int))→
 ∃ x',F105_l2 5000 d p fuel mp x (i:Int)=some (x',(nc (kr d f) (d.f1.length+1):Int))∧OFL d x' (ck (kr d f))
 | 0,i,fu+1,mp,x,hi,_,hm,hx,hv=>by
   have hn:=h.n2
   rw[F105_l2.eq_2,if_neg (by have:=hp.1;omega)]
   refine⟨x,?_,hx,fun j hj=>⟨hv j (by omega),by have:=ck_le (kr d f) j;omega⟩⟩
   rw[F105_c0,hm.1,show i=d.f1.length+1 by omega]
 | m+1,i,fu+1,mp,x,hi,hf,hm,hx,hv=>by
   have hn:=h.n2
   have hpl:=hp.1
   have hr:=mrow_eq h hp (show i≤d.f1.length by omega)
   have ek:strOfNums (enc2 (KL d f i))=kr d f i:=by unfold kr;rw[if_pos (by omega)]
   rw[ek]at hr
   have fin:∀ mp',MapOK (kr d f) (i+1) mp'→∃ x',F105_c1 5000 (F105_l2 5000 d p fu) x (i:Int) mp' (ck (kr d f) i:Int)=some (x',(nc (kr d f) (d.f1.length+1):Int))∧OFL d x' (ck (kr d f)):=by
    intro mp' hm'
    unfold F105_c1
    rw[if_pos ⟨by omega,by omega⟩,w6 (by omega) (by omega)]
    have:=split_l h hp m (i+1) fu mp' (lset x (i:Int) (ck (kr d f) i:Int)) (by omega) (by omega) hm' (by rw[lset_len,hx]) (fun j hj=>by
     rw[ilget_lset _ _ _ _ (by omega) (by omega) (by omega)]
     by_cases q:j=i
     ·subst q;rw[if_pos rfl]
     ·rw[if_neg (by omega)];exact hv j (by omega))
    exact_mod_cast this
   rw[F105_l2.eq_2,if_pos (by omega),hr,Option.bind_some]
   by_cases q:rc (kr d f) i=i
   ·obtain⟨k1,k2,k3⟩:=mapok_new hm q
    rw[k1,if_pos (by rfl),k2];exact fin _ k3
   ·obtain⟨k1,k2⟩:=mapok_old hm q
    rw[k1,if_neg (by simp)];exact fin _ k2
theorem split_eq {d:S55} (h:Dr d) {p:List Int} {f:Nat→Nat} (hp:OFL d p f):∃ x,F105 5000 d p=some (x,(nc (kr d f) (d.f1.length+1):Int))∧OFL d x (ck (kr d f)):=by
 have hn:=h.n2
 have hpl:=hp.1
 unfold F105
 rw[if_pos ⟨by omega,by omega,by omega⟩]
 have:=split_l h hp (d.f1.length+1) 0 5000 [] (List.replicate (p.length:Int).toNat 0) (by omega) (by omega) ⟨rfl,fun c hc=>by omega,fun s _=>rfl⟩ (by simp[hpl]) (fun j hj=>by omega)
 rw[Int.natCast_zero]at this
 exact this
def f0 (d:S55) (i:Nat):Nat:=(mk d (i:Int)+1).toNat
theorem f0_lt {d:S55} (h:Dr d) (i:Nat):f0 d i<65536:=by have:=mk_ge h (i:Int);unfold f0;omega
theorem blocks0_l {d:S55} (h:Dr d):∀ (m i fuel:Nat) (x:List Int),i+m=d.f1.length→m<fuel→x.length=d.f1.length+1→(∀ j:Nat,j<i→lget x (j:Int)=(f0 d j:Int))→(∀ j:Nat,i≤j→lget x (j:Int)=0)→∃ x',F106_l1 5000 d fuel x (i:Int)=some x'∧OFL d x' (f0 d)
 | 0,i,fu+1,x,hi,_,hx,h1,h2=>by
   have hm:=h.ml
   rw[F106_l1.eq_2,if_neg (by omega)]
   refine⟨x,rfl,hx,fun j hj=>⟨?_,f0_lt h j⟩⟩
   by_cases q:j<i
   ·exact h1 j q
   ·rw[h2 j (by omega)]
    have:mk d (j:Int)= -1:=by unfold mk;rw[if_pos (.inr (by omega))]
    unfold f0;rw[this];rfl
 | m+1,i,fu+1,x,hi,hf,hx,h1,h2=>by
   have hn:=h.n2
   have hm:=h.ml
   have hmk:=mk_ge h (i:Int)
   have em:mk d (i:Int)=lget d.f2 (i:Int):=mk_in h (by omega) (by omega)
   have e:w64 (lget d.f2 (i:Int)+1)=(f0 d i:Int):=by rw[←em,w6 (by omega) (by omega)];unfold f0;omega
   rw[F106_l1.eq_2,if_pos (by omega),if_pos ⟨by omega,by omega⟩,if_pos ⟨by omega,by omega⟩,e,w6 (by omega) (by omega)]
   have:=blocks0_l h m (i+1) fu (lset x (i:Int) (f0 d i:Int)) (by omega) (by omega) (by rw[lset_len,hx]) (fun j hj=>by
    rw[ilget_lset _ _ _ _ (by omega) (by omega) (by omega)]
    by_cases q:j=i
    ·subst q;rw[if_pos rfl]
    ·rw[if_neg (by omega)];exact h1 j (by omega)) (fun j hj=>by
    rw[ilget_lset _ _ _ _ (by omega) (by omega) (by omega),if_neg (by omega)];exact h2 j (by omega))
   exact_mod_cast this
theorem blocks0_eq {d:S55} (h:Dr d):∃ x,F106 5000 d=some x∧OFL d x (f0 d):=by
 have hn:=h.n2
 have e:w64 ((d.f1.length:Int)+1)=((d.f1.length+1:Nat):Int):=by rw[w6 (by omega) (by omega)];omega
 unfold F106
 rw[e,if_pos ⟨by omega,by omega,by omega⟩,Int.toNat_natCast]
 have:=blocks0_l h d.f1.length 0 5000 (List.replicate (d.f1.length+1) 0) (by omega) (by omega) (by simp) (fun j hj=>by omega) (fun j _=>by
  unfold lget
  rw[List.getD,List.getElem?_replicate];split<;>rfl)
 rw[Int.natCast_zero]at this
 exact this
def Bis (d:S55) (E:Nat→Nat→Prop):Prop:=∀ i j,i≤d.f1.length→j≤d.f1.length→E i j→f0 d i=f0 d j∧∀ c,c<KC d→E (dl d i c) (dl d j c)
structure Cut (d:S55) (kk:Nat→ByteArray):Prop where
 mark:∀ i j,i≤d.f1.length→j≤d.f1.length→kk i=kk j→f0 d i=f0 d j
 bis:∀ E,Bis d E→∀ i j,i≤d.f1.length→j≤d.f1.length→E i j→kk i=kk j
 out:∀ i j,i≤d.f1.length→¬ j≤d.f1.length→kk i≠kk j
 outs:∀ i j,¬ i≤d.f1.length→¬ j≤d.f1.length→kk i=kk j
def Stb (d:S55) (kk:Nat→ByteArray):Prop:=∀ i j,i≤d.f1.length→j≤d.f1.length→kk i=kk j→∀ c,c<KC d→kk (dl d i c)=kk (dl d j c)
theorem cut0 {d:S55} (h:Dr d):Cut d (kr d (f0 d)):=by
 refine⟨fun i j hi hj e=>((kr_iff h (fun i _=>f0_lt h i) hi hj).1 e).1,fun E hE i j hi hj e=>?_,fun i j hi hj=>kr_out hi hj,fun i j hi hj=>by unfold kr;rw[if_neg hi,if_neg hj]⟩
 obtain⟨e1,e2⟩:=hE i j hi hj e
 exact(kr_iff h (fun i _=>f0_lt h i) hi hj).2 ⟨e1,fun c hc=>(hE _ _ (dl_le h hc) (dl_le h hc) (e2 c hc)).1⟩
theorem ck_lt16 {d:S55} (h:Dr d) (kk:Nat→ByteArray):∀ i,i≤d.f1.length→ck kk i<65536:=fun i hi=>by have:=ck_le kk i;have:=h.n2;omega
theorem cutS {d:S55} (h:Dr d) {kk:Nat→ByteArray} (k:Cut d kk):Cut d (kr d (ck kk))∧(∀ i j,kr d (ck kk) i=kr d (ck kk) j→kk i=kk j):=by
 have hf:=ck_lt16 h kk
 have fine:∀ i j,kr d (ck kk) i=kr d (ck kk) j→kk i=kk j:=by
  intro i j e
  by_cases hi:i≤d.f1.length
  ·by_cases hj:j≤d.f1.length
   ·exact ck_iff.1 ((kr_iff h hf hi hj).1 e).1
   ·exact absurd e (kr_out hi hj)
  ·by_cases hj:j≤d.f1.length
   ·exact absurd e.symm (kr_out hj hi)
   ·exact k.outs i j hi hj
 refine⟨⟨fun i j hi hj e=>k.mark i j hi hj (fine i j e),fun E hE i j hi hj e=>?_,fun i j hi hj=>kr_out hi hj,fun i j hi hj=>by unfold kr;rw[if_neg hi,if_neg hj]⟩,fine⟩
 obtain⟨e1,e2⟩:=hE i j hi hj e
 exact(kr_iff h hf hi hj).2 ⟨ck_iff.2 (k.bis E hE i j hi hj e),fun c hc=>ck_iff.2 (k.bis E hE _ _ (dl_le h hc) (dl_le h hc) (e2 c hc))⟩
theorem stbS {d:S55} (h:Dr d) {kk:Nat→ByteArray} (k:Cut d kk) (e:nc kk (d.f1.length+1)=nc (kr d (ck kk)) (d.f1.length+1)):Stb d (kr d (ck kk)):=by
 have hf:=ck_lt16 h kk
 have fine:=(cutS h k).2
 intro i j hi hj q c hc
 have:=((kr_iff h hf hi hj).1 q).2 c hc
 have hd1:=dl_le h (i:=i) hc
 have hd2:=dl_le h (i:=j) hc
 exact fine_same fine e (by omega) (by omega) (ck_iff.1 this)
theorem blocks_l0 {d:S55} (h:Dr d):∀ (fuel:Nat) (kk:Nat→ByteArray) (x:List Int),Cut d kk→OFL d x (ck kk)→d.f1.length+1-nc kk (d.f1.length+1)<fuel→∃ kk' x',Cut d kk'∧Stb d kk'∧OFL d x' (ck kk')∧F81_l0 5000 d fuel x (nc kk (d.f1.length+1):Int)=some (lcut x' 0 (d.f1.length:Int))
 | 0,_,_,_,_,hf=>by omega
 | fu+1,kk,x,k,hx,hf=>by
   obtain⟨x',s1,s2⟩:=split_eq h hx
   obtain⟨k1,k2⟩:=cutS h k
   have hle:=nc_fine k2 (d.f1.length+1)
   have hmax:=nc_le (kr d (ck kk)) (d.f1.length+1)
   rw[F81_l0.eq_2,s1,Option.bind_some]
   by_cases e:nc kk (d.f1.length+1)=nc (kr d (ck kk)) (d.f1.length+1)
   ·refine⟨_,x',k1,stbS h k e,s2,?_⟩
    have hl:=s2.1
    show (if((nc (kr d (ck kk)) (d.f1.length+1):Nat):Int)=(nc kk (d.f1.length+1):Int)then if 0≤(0:Int)∧(0:Int)≤(d.f1.length:Int)∧(d.f1.length:Int)≤(x'.length:Int)then some (lcut x' 0 (d.f1.length:Int))else none else _)=_
    rw[if_pos (by omega),if_pos ⟨by omega,by omega,by omega⟩]
   ·have ih:=blocks_l0 h fu (kr d (ck kk)) x' k1 s2 (by omega)
    show ∃ kk' x'',Cut d kk'∧Stb d kk'∧OFL d x'' (ck kk')∧(if((nc (kr d (ck kk)) (d.f1.length+1):Nat):Int)=(nc kk (d.f1.length+1):Int)then _ else F81_l0 5000 d fu x' (nc (kr d (ck kk)) (d.f1.length+1):Int))=_
    rw[if_neg (by omega)]
    exact ih
theorem Blocks_eq {d:S55} (h:Dr d) (hr:F78 5000 d=some true):∃ kk x,Cut d kk∧Stb d kk∧OFL d x (ck kk)∧F81 5000 d=some (lcut x 0 (d.f1.length:Int)):=by
 have hn:=h.n2
 obtain⟨x0,a1,a2⟩:=blocks0_eq h
 obtain⟨x1,b1,b2⟩:=split_eq h a2
 obtain⟨kk,x,c1,c2,c3,c4⟩:=blocks_l0 h 5000 (kr d (f0 d)) x1 (cut0 h) b2 (by omega)
 refine⟨kk,x,c1,c2,c3,?_⟩
 unfold F81
 rw[hr,Option.bind_some,if_neg (by decide),a1,Option.bind_some,b1,Option.bind_some]
 exact c4
def bt1 (kk:Nat→ByteArray) (x:Int):Int:=if 0≤x then(ck kk x.toNat:Int)else x
def QO (e:S55) (kk:Nat→ByteArray):S55:=S55.mk e.f0 ((rps kk e.f1.length 0).map fun i:Nat=>(lget e.f1 (i:Int)).map (bt1 kk)) ((rps kk e.f1.length 0).map fun i:Nat=>lget e.f2 (i:Int))
theorem lcut0 (x:List Int) (n:Nat):lcut x 0 (n:Int)=x.take n:=by
 unfold lcut
 simp
theorem take_get {x:List Int} {n i:Nat} (h:i<n):lget (x.take n) (i:Int)=lget x (i:Int):=by
 unfold lget
 rw[Int.toNat_natCast,List.getD,List.getD,List.getElem?_take,if_pos h]
theorem of_l4 {e:S55} (h:Dr e) (rec21:List (List Int)→List Int→Int→Option (S55×Int)) {kk:Nat→ByteArray} {x:List Int} (hx:OFL e x (ck kk)) (R:List (List Int)) (K:List Int) (i:Nat) (hi:i<e.f1.length):∀ (m c fuel:Nat) (a:List Int),c+m=(lget e.f1 (i:Int)).length→m<fuel→a.length≤c→
 F63_l4 5000 rec21 e (x.take e.f1.length) R K (i:Int) fuel a (c:Int)=F63_c2 5000 rec21 e R K (i:Int) (a++((lget e.f1 (i:Int)).drop c).map (bt1 kk))
 | 0,c,fu+1,a,hc,_,_=>by
   rw[F63_l4.eq_2,if_neg (by omega),List.drop_of_length_le (by omega),List.map_nil,List.append_nil]
 | m+1,c,fu+1,a,hc,hf,ha=>by
   have hr:lget e.f1 (i:Int)∈e.f1:=mem_lget (by omega) (by omega)
   have hl:=h.row256 _ hr
   have hc':c<(lget e.f1 (i:Int)).length:=by omega
   have hxl:=hx.1
   have ent:=h.ent _ hr _ (mem_lget (l:=lget e.f1 (i:Int)) (i:=(c:Int)) (by omega) (by omega))
   have ih:=of_l4 h rec21 hx R K i hi m (c+1) fu (a++[bt1 kk (lget (lget e.f1 (i:Int)) (c:Int))]) (by omega) (by omega) (by simp;omega)
   rw[List.append_assoc]at ih
   have ed:(lget e.f1 (i:Int)).drop c=lget (lget e.f1 (i:Int)) (c:Int)::(lget e.f1 (i:Int)).drop (c+1):=by
    rw[List.drop_eq_getElem_cons hc',iget_lt _ c hc']
   have fin:F63_c3 5000 (F63_l4 5000 rec21 e (x.take e.f1.length) R K (i:Int) fu) a (c:Int) (bt1 kk (lget (lget e.f1 (i:Int)) (c:Int)))=F63_c2 5000 rec21 e R K (i:Int) (a++((lget e.f1 (i:Int)).drop c).map (bt1 kk)):=by
    unfold F63_c3
    rw[if_pos (by simp;omega),w6 (by omega) (by omega),ed,List.map_cons]
    exact_mod_cast ih
   rw[F63_l4.eq_2,if_pos (by omega),if_pos ⟨by omega,by omega⟩]
   by_cases b:(0:Int)≤lget (lget e.f1 (i:Int)) (c:Int)
   ·have hlen:(x.take e.f1.length).length=e.f1.length:=by rw[List.length_take];omega
    have hb:lget (x.take e.f1.length) (lget (lget e.f1 (i:Int)) (c:Int))=bt1 kk (lget (lget e.f1 (i:Int)) (c:Int)):=by
     obtain⟨t,ht⟩:∃ t:Nat,lget (lget e.f1 (i:Int)) (c:Int)=(t:Int):=⟨(lget (lget e.f1 (i:Int)) (c:Int)).toNat,by omega⟩
     rw[ht]at ent⊢
     unfold bt1
     rw[if_pos (by omega),Int.toNat_natCast,take_get (by omega),(hx.2 t (by omega)).1]
    rw[if_pos b,if_pos ⟨b,by rw[hlen];exact ent.2⟩,hb]
    exact fin
   ·have hb:lget (lget e.f1 (i:Int)) (c:Int)=bt1 kk (lget (lget e.f1 (i:Int)) (c:Int)):=by unfold bt1;rw[if_neg b]
    rw[if_neg b]
    conv=>lhs;arg 5;rw[hb]
    exact fin
theorem of_l5 {e:S55} (h:Dr e) {kk:Nat→ByteArray} {x:List Int} (hx:OFL e x (ck kk)):∀ (m i fuel:Nat) (R:List (List Int)) (K:List Int),i+m=e.f1.length→m<fuel→R.length=nc kk i→K.length≤i→
 F63_l5 5000 e (x.take e.f1.length) fuel R K (i:Int)=F63_c0 5000 e (R++(rps kk m i).map fun i:Nat=>(lget e.f1 (i:Int)).map (bt1 kk)) (K++(rps kk m i).map fun i:Nat=>lget e.f2 (i:Int))
 | 0,i,fu+1,R,K,hi,_,_,_=>by
   rw[F63_l5.eq_2,if_neg (by omega),rps,List.map_nil,List.map_nil,List.append_nil,List.append_nil]
 | m+1,i,fu+1,R,K,hi,hf,hR,hK=>by
   have hn:=h.n2
   have hml:=h.ml
   have hi':i<e.f1.length:=by omega
   have hxl:=hx.1
   have hlen:(x.take e.f1.length).length=e.f1.length:=by rw[List.length_take];omega
   have hb:lget (x.take e.f1.length) (i:Int)=(ck kk i:Int):=by rw[take_get hi',(hx.2 i (by omega)).1]
   have hnl:=nc_le kk i
   rw[F63_l5.eq_2,if_pos (by omega),if_pos ⟨by omega,by omega⟩,hb,rps]
   by_cases q:rc kk i=i
   ·have hc:ck kk i=nc kk i:=by unfold ck;rw[q]
    have hr:lget e.f1 (i:Int)∈e.f1:=mem_lget (by omega) (by omega)
    have l4:=of_l4 h (F63_l5 5000 e (x.take e.f1.length) fu) hx R K i hi' (lget e.f1 (i:Int)).length 0 5000 [] (by omega) (by have:=h.row256 _ hr;omega) (by simp)
    rw[Int.natCast_zero,List.drop_zero,List.nil_append]at l4
    have ih:=of_l5 h hx m (i+1) fu (R++[(lget e.f1 (i:Int)).map (bt1 kk)]) (K++[lget e.f2 (i:Int)]) (by omega) (by omega) (by rw[List.length_append,hR,nc,if_pos q];rfl) (by simp;omega)
    rw[List.append_assoc,List.append_assoc]at ih
    rw[if_neg (by omega),if_pos ⟨by omega,by omega⟩,l4,if_pos q]
    unfold F63_c2 F63_c1
    rw[if_pos (by simp;omega),if_pos ⟨by omega,by omega⟩,if_pos (by simp;omega),w6 (by omega) (by omega)]
    exact_mod_cast ih
   ·have hr:rc kk i<i:=by have:=(rc_spec kk i).1;omega
    have hc:ck kk i<nc kk i:=by unfold ck;exact nc_rep (rc_rc kk i) hr
    have ih:=of_l5 h hx m (i+1) fu R K (by omega) (by omega) (by rw[hR,nc,if_neg q];rfl) (by omega)
    rw[if_pos (by omega),if_neg q]
    unfold F63_c1
    rw[w6 (by omega) (by omega)]
    exact_mod_cast ih
theorem of_mid {d:S55} (h:Dr d) (hr:F78 5000 d=some true) (hrr:∀ e,Dr e→F78 5000 e=some true):∃ A kk,AS d A∧Cut (ORD (TRM d A)) kk∧Stb (ORD (TRM d A)) kk∧F63 5000 d=(F82 5000 (QO (ORD (TRM d A)) kk)).bind fun t14=>(F79 5000 t14).bind fun t15=>some (t15,0):=by
 obtain⟨A,hA,t1⟩:=trim_eq h
 have hT:=TRM_Dr h A
 have hE:=ORD_Dr hT
 obtain⟨kk,x,c1,c2,c3,c4⟩:=Blocks_eq hE (hrr _ hE)
 refine⟨A,kk,hA,c1,c2,?_⟩
 unfold F63
 rw[hr,Option.bind_some,if_neg (by decide),t1,Option.bind_some,order_eq hT,Option.bind_some,c4,Option.bind_some,lcut0]
 have:=of_l5 hE c3 (ORD (TRM d A)).f1.length 0 5000 [] [] (by omega) (by have:=hE.n2;omega) rfl (by simp)
 rw[Int.natCast_zero,List.nil_append,List.nil_append]at this
 exact this
def cls (d:S55) (b:Nat):Nat:=(vget d.f0 (b:Int)).toNat
def CL2 (d:S55) (c:Nat):List Nat:=d.f1.map fun r=>(lget r (c:Int)+1).toNat
def kcol (d:S55) (b:Nat):ByteArray:=strOfNums (enc2 (CL2 d (cls d b)))
theorem cls_eq {d:S55} (h:Dr d) {b:Nat} (hb:b<256):vget d.f0 (b:Int)=(cls d b:Int)∧cls d b<KC d:=by
 have h1:=h.vb (b:Int)
 have h2:=kc_lt (v:=d.f0) 256 b hb
 have e:kcl d.f0=kc d.f0 256:=rfl
 have hk:=KC_eq h
 unfold cls
 exact⟨by omega,by omega⟩
theorem col_l {d:S55} (h:Dr d) {c:Nat} (hc:c<KC d):∀ (m i fuel:Nat) (l:List Nat),i+m=d.f1.length→m<fuel→l.length≤i→F107_l1 5000 d (c:Int) fuel (strOfNums (enc2 l)) (i:Int)=some (strOfNums (enc2 (l++(d.f1.drop i).map fun r=>(lget r (c:Int)+1).toNat)))
 | 0,i,fu+1,l,hi,_,_=>by
   rw[F107_l1.eq_2,if_neg (by omega),List.drop_of_length_le (by omega),List.map_nil,List.append_nil];rfl
 | m+1,i,fu+1,l,hi,hf,hl=>by
   have hi':i<d.f1.length:=by omega
   have hn:=h.n2
   have hk:=KC_eq h
   have hr:d.f1[i]∈d.f1:=List.getElem_mem hi'
   have hrl:=h.row _ hr
   have ent:=h.ent _ hr _ (mem_lget (l:=d.f1[i]) (i:=(c:Int)) (by omega) (by omega))
   have hv:(lget d.f1[i] (c:Int)+1).toNat<65536:=by omega
   have e:w64 (lget d.f1[i] (c:Int)+1)=(((lget d.f1[i] (c:Int)+1).toNat:Nat):Int):=by rw[w6 (by omega) (by omega)];omega
   have ih:=col_l h hc m (i+1) fu (l++[(lget d.f1[i] (c:Int)+1).toNat]) (by omega) (by omega) (by simp;omega)
   have e2:enc2 l++wd2 (lget d.f1[i] (c:Int)+1).toNat=enc2 (l++[(lget d.f1[i] (c:Int)+1).toNat]):=by rw[enc2_app];rfl
   have eg:lget d.f1 (i:Int)=d.f1[i]:=lget_lt _ i hi'
   rw[F107_l1.eq_2,if_pos (by omega),if_pos ⟨by omega,by omega⟩,eg,if_pos ⟨by omega,by omega⟩,e,mword_eq hv,Option.bind_some,if_pos (by rw[strOf_size,strOf_size,enc2_len];simp[wd2];omega),w6 (by omega) (by omega), ←strOf_app,e2,List.drop_eq_getElem_cons hi',List.map_cons]
   rw[List.append_assoc]at ih
   exact_mod_cast ih
theorem col_eq {d:S55} (h:Dr d) {b:Nat} (hb:b<256):F107 5000 d (cls d b:Int)=some (kcol d b):=by
 have:=col_l h (cls_eq h hb).2 d.f1.length 0 5000 [] (by omega) (by have:=h.n2;omega) (by simp)
 rw[Int.natCast_zero,List.drop_zero,List.nil_append]at this
 exact this
structure CI (d:S55) (b:Nat) (v:Vector Int 256) (mp:List (ByteArray×Int)) (kept of:List Int) (done:List Bool):Prop where
 mp:MapOK (kcol d) b mp
 kl:kept.length=nc (kcol d) b
 ol:of.length=KC d
 dl:done.length=KC d
 dn:∀ x:Nat,x<KC d→(lget done (x:Int)=true↔∃ c,c<b∧cls d c=x)
 of:∀ c,c<b→lget of (cls d c:Int)=(ck (kcol d) c:Int)
 v:∀ c,c<b→vget v (c:Int)=(ck (kcol d) c:Int)
theorem kcol_cls {d:S55} {b c:Nat} (h:cls d b=cls d c):kcol d b=kcol d c:=by unfold kcol;rw[h]
theorem KC_le {d:S55} (h:Dr d):KC d≤256:=by
 have:=kc_rng h.vb 256
 have e:kcl d.f0=kc d.f0 256:=rfl
 unfold KC;omega
theorem cl_l8 {d:S55} (h:Dr d):∀ (m b fuel:Nat) (v:Vector Int 256) (mp:List (ByteArray×Int)) (kept of:List Int) (done:List Bool),b+m=256→m<fuel→CI d b v mp kept of done→
 ∃ v',F82_l8 5000 d fuel v mp kept of done (b:Int)=F82_c5 5000 d v' (kept++(rps (kcol d) m b).map fun r=>(cls d r:Int))∧∀ c:Nat,c<256→vget v' (c:Int)=(ck (kcol d) c:Int)
 | 0,b,fu+1,v,mp,kept,of,done,hb,_,hi=>by
   refine⟨v,?_,fun c hc=>hi.v c (by omega)⟩
   rw[F82_l8.eq_2,if_neg (by omega),rps,List.map_nil,List.append_nil]
 | m+1,b,fu+1,v,mp,kept,of,done,hb,hf,hi=>by
   have hb':b<256:=by omega
   have hn:=h.n2
   have hK:=KC_le h
   obtain⟨e1,e2⟩:=cls_eq h hb'
   have hck:=ck_le (kcol d) b
   have hnl:=nc_le (kcol d) b
   have ew:w64 (vget d.f0 (b:Int))=(cls d b:Int):=by rw[e1,w6 (by omega) (by omega)]
   have g1:0≤(b:Int)∧(b:Int)<256:=⟨by omega,by omega⟩
   have hol:=hi.ol
   have hdl:=hi.dl
   have fin:∀ (mp':List (ByteArray×Int)) (kept' of':List Int) (done':List Bool),MapOK (kcol d) (b+1) mp'→kept'=kept++(if rc (kcol d) b=b then [(cls d b:Int)]else [])→of'.length=KC d→done'.length=KC d→(∀ x:Nat,x<KC d→(lget done' (x:Int)=true↔∃ c,c<b+1∧cls d c=x))→(∀ c,c<b+1→lget of' (cls d c:Int)=(ck (kcol d) c:Int))→
    ∃ v',F82_c6 5000 (F82_l8 5000 d fu) d v (b:Int) mp' kept' of' done'=F82_c5 5000 d v' (kept++(rps (kcol d) (m+1) b).map fun r=>(cls d r:Int))∧∀ c:Nat,c<256→vget v' (c:Int)=(ck (kcol d) c:Int):=by
    intro mp' kept' of' done' k1 k2 k3 k4 k5 k6
    unfold F82_c6
    rw[ew,if_pos ⟨by omega,by omega⟩,if_pos g1,k6 b (by omega),w8_id (by omega) (by omega),w6 (by omega) (by omega)]
    have:=cl_l8 h m (b+1) fu (vset v (b:Int) (ck (kcol d) b:Int)) mp' kept' of' done' (by omega) (by omega) ⟨k1,by rw[k2,List.length_append,hi.kl,nc];split<;>rfl,k3,k4,k5,k6,fun c hc=>by
     rw[vget_vset256 _ _ _ _ hb' (by omega)]
     by_cases q:c=b
     ·subst q;rw[if_pos rfl]
     ·rw[if_neg q];exact hi.v c (by omega)⟩
    obtain⟨v',t1,t2⟩:=this
    refine⟨v',?_,t2⟩
    have ek:kept'++(rps (kcol d) m (b+1)).map (fun r=>(cls d r:Int))=kept++(rps (kcol d) (m+1) b).map fun r=>(cls d r:Int):=by
     rw[k2,rps]
     by_cases q:rc (kcol d) b=b
     ·rw[if_pos q,if_pos q,List.append_assoc];rfl
     ·rw[if_neg q,if_neg q,List.append_nil]
    rw[←ek]
    exact_mod_cast t1
   rw[F82_l8.eq_2,if_pos g1.2,if_pos g1,ew,if_pos ⟨by omega,by omega⟩]
   by_cases dn:∃ c,c<b∧cls d c=cls d b
   ·have hd:=(hi.dn _ e2).2 dn
    obtain⟨c0,c1,c2⟩:=dn
    have hne:rc (kcol d) b≠b:=by
     intro q
     exact(rc_spec (kcol d) b).2.2 c0 (by rw[q];exact c1) (kcol_cls c2)
    obtain⟨_,k2⟩:=mapok_old hi.mp hne
    rw[hd,if_neg (by decide)]
    refine fin mp kept of done k2 (by rw[if_neg hne,List.append_nil]) hol hdl (fun x hx=>?_) (fun c hc=>?_)
    ·rw[hi.dn x hx]
     constructor
     ·rintro⟨c,k,r⟩;exact⟨c,by omega,r⟩
     ·rintro⟨c,k,r⟩
      by_cases q:c=b
      ·subst q;exact⟨c0,c1,by rw[c2,r]⟩
      ·exact⟨c,by omega,r⟩
    ·by_cases q:c=b
     ·subst q;rw[←c2,hi.of c0 c1];exact congrArg _ (ck_same _ (kcol_cls c2))
     ·exact hi.of c (by omega)
   ·have hd:lget done (cls d b:Int)=false:=by
     cases k:lget done (cls d b:Int)with
     | false=>rfl
     | true=>exact absurd ((hi.dn _ e2).1 k) dn
    have fin7:∀ (mp':List (ByteArray×Int)) (kept':List Int),MapOK (kcol d) (b+1) mp'→kept'=kept++(if rc (kcol d) b=b then [(cls d b:Int)]else [])→
     ∃ v',F82_c7 5000 (F82_l8 5000 d fu) d v of done (b:Int) mp' kept' (ck (kcol d) b:Int)=F82_c5 5000 d v' (kept++(rps (kcol d) (m+1) b).map fun r=>(cls d r:Int))∧∀ c:Nat,c<256→vget v' (c:Int)=(ck (kcol d) c:Int):=by
     intro mp' kept' k1 k2
     unfold F82_c7
     rw[ew,if_pos ⟨by omega,by omega⟩,if_pos ⟨by omega,by omega⟩]
     refine fin mp' kept' _ _ k1 k2 (by rw[lset_len,hol]) (by rw[lset_len,hdl]) (fun x hx=>?_) (fun c hc=>?_)
     ·rw[lget_lsetB _ _ _ _ (by omega) (by omega) (by omega)]
      by_cases q:(x:Int)=(cls d b:Int)
      ·rw[if_pos q]
       exact⟨fun _=>⟨b,by omega,by omega⟩,fun _=>rfl⟩
      ·rw[if_neg q,hi.dn x hx]
       constructor
       ·rintro⟨c,k,r⟩;exact⟨c,by omega,r⟩
       ·rintro⟨c,k,r⟩
        by_cases q2:c=b
        ·subst q2;exact absurd (by omega) q
        ·exact⟨c,by omega,r⟩
     ·rw[ilget_lset _ _ _ _ (by omega) (by omega) (by omega)]
      by_cases q:(cls d c:Int)=(cls d b:Int)
      ·rw[if_pos q];exact congrArg _ (ck_same _ (kcol_cls (by omega)))
      ·rw[if_neg q]
       exact hi.of c (by
        have:c≠b:=fun e=>q (by rw[e])
        omega)
    rw[hd,if_pos (by decide),col_eq h hb',Option.bind_some]
    by_cases q:rc (kcol d) b=b
    ·obtain⟨k1,k2,k3⟩:=mapok_new hi.mp q
     have hc:ck (kcol d) b=nc (kcol d) b:=by unfold ck;rw[q]
     have e4:(kept.length:Int)=(ck (kcol d) b:Int):=by rw[hi.kl,hc]
     rw[k1,if_pos (by rfl),if_pos (by have:=hi.kl;simp;omega),e4]
     exact fin7 _ _ k3 (by rw[if_pos q])
    ·obtain⟨k1,k2⟩:=mapok_old hi.mp q
     rw[k1,if_neg (by simp)]
     exact fin7 _ _ k2 (by rw[if_neg q,List.append_nil])
def KB (d:S55):List Int:=(rps (kcol d) 256 0).map fun r:Nat=>(cls d r:Int)
theorem KB_mem {d:S55} (h:Dr d) {c:Int} (hc:c∈KB d):0≤c∧c<kcl d.f0:=by
 obtain⟨r,hr,rfl⟩:=List.mem_map.1 hc
 have:=rps_mem (kcol d) 256 0 r hr
 have:=(cls_eq h (b:=r) (by omega)).2
 have:=KC_eq h
 omega
theorem KB_len (d:S55):(KB d).length≤256:=by
 unfold KB
 rw[List.length_map]
 have:=rps_len (kcol d) 256 0
 have:=nc_le (kcol d) (0+256)
 omega
theorem cl_l3 {d:S55} (h:Dr d) (rec19:List (List Int)→Int→Option S55) (R:List (List Int)) (i:Nat) (hi:i<d.f1.length) (hR:R.length≤10000):∀ (m j fuel:Nat) (a:List Int),j+m=(KB d).length→m<fuel→a.length≤j→
 F82_l3 5000 rec19 d (KB d) R (i:Int) fuel a (j:Int)=rec19 (R++[a++((KB d).drop j).map fun c=>lget (lget d.f1 (i:Int)) c]) ((i+1:Nat):Int)
 | 0,j,fu+1,a,hj,_,_=>by
   have hn:=h.n2
   rw[F82_l3.eq_2,if_neg (by omega),List.drop_of_length_le (by omega),List.map_nil,List.append_nil]
   unfold F82_c2 F82_c1
   rw[if_pos (by simp;omega),w6 (by omega) (by omega)];rfl
 | m+1,j,fu+1,a,hj,hf,ha=>by
   have hn:=h.n2
   have hl:=KB_len d
   have hj':j<(KB d).length:=by omega
   have hc:=KB_mem h (List.getElem_mem hj')
   have hr:=h.row _ (mem_lget (l:=d.f1) (i:=(i:Int)) (by omega) (by omega))
   have ih:=cl_l3 h rec19 R i hi hR m (j+1) fu (a++[lget (lget d.f1 (i:Int)) (KB d)[j]]) (by omega) (by omega) (by simp;omega)
   rw[List.append_assoc]at ih
   rw[F82_l3.eq_2,if_pos (by omega),if_pos ⟨by omega,by omega⟩,iget_lt _ j hj',if_pos ⟨hc.1,by omega⟩,if_pos (by simp;omega),w6 (by omega) (by omega),List.drop_eq_getElem_cons hj',List.map_cons]
   exact_mod_cast ih
theorem cl_l4 {d:S55} (h:Dr d) (v:Vector Int 256):∀ (m i fuel:Nat) (R:List (List Int)),i+m=d.f1.length→m<fuel→R.length≤i→
 F82_l4 5000 d v (KB d) fuel R (i:Int)=some (S55.mk v (R++(d.f1.drop i).map fun r=>(KB d).map fun c=>lget r c) d.f2)
 | 0,i,fu+1,R,hi,_,_=>by
   rw[F82_l4.eq_2,if_neg (by omega),List.drop_of_length_le (by omega),List.map_nil,List.append_nil];rfl
 | m+1,i,fu+1,R,hi,hf,hR=>by
   have hn:=h.n2
   have hi':i<d.f1.length:=by omega
   have l3:=cl_l3 h (F82_l4 5000 d v (KB d) fu) R i hi' (by omega) (KB d).length 0 5000 [] (by omega) (by have:=KB_len d;omega) (by simp)
   rw[Int.natCast_zero,List.drop_zero,List.nil_append]at l3
   have ih:=cl_l4 h v m (i+1) fu (R++[(KB d).map fun c=>lget (lget d.f1 (i:Int)) c]) (by omega) (by omega) (by simp;omega)
   rw[List.append_assoc]at ih
   have eg:lget d.f1 (i:Int)=d.f1[i]:=lget_lt _ i hi'
   rw[F82_l4.eq_2,if_pos (by omega),if_pos ⟨by omega,by omega⟩,l3,ih,List.drop_eq_getElem_cons hi',List.map_cons,eg];rfl
theorem mclasses_eq {d:S55} (h:Dr d):∃ v:Vector Int 256,(∀ c:Nat,c<256→vget v (c:Int)=(ck (kcol d) c:Int))∧F82 5000 d=some (S55.mk v (d.f1.map fun r=>(KB d).map fun c=>lget r c) d.f2):=by
 have hn:=h.n2
 have hK:=KC_le h
 have hk:=KC_eq h
 obtain⟨v,v1,v2⟩:=cl_l8 h 256 0 5000 (Vector.replicate 256 0) [] [] (List.replicate (KC d) 0) (List.replicate (KC d) false) (by omega) (by omega)
  ⟨⟨rfl,fun c hc=>by omega,fun s _=>rfl⟩,rfl,by simp,by simp,fun x hx=>by
    rw[lget_repB]
    constructor
    ·intro e;cases e
    ·rintro⟨c,hc,_⟩;omega,fun c hc=>by omega,fun c hc=>by omega⟩
 rw[Int.natCast_zero,List.nil_append]at v1
 refine⟨v,v2,?_⟩
 unfold F82
 rw[count_eq h.vb,Option.bind_some,hk,if_pos ⟨by omega,by omega,by omega⟩,Int.toNat_natCast,List.length_replicate,if_pos ⟨by omega,by omega,by omega⟩,Int.toNat_natCast,v1]
 unfold F82_c5
 have:=cl_l4 h v d.f1.length 0 5000 [] (by omega) (by omega) (by simp)
 rw[Int.natCast_zero,List.drop_zero,List.nil_append]at this
 exact this
def go (d:S55):Int→List Nat→Int
 | q,[]=>q
 | q,b::w=>go d (stp d q (b:Int)) w
def LL (d:S55) (q:Int) (w:List Nat):Int:=mk d (go d q w)
def Byt (w:List Nat):Prop:=∀ b∈w,b<256
theorem go_app (d:S55):∀ (w u:List Nat) (q:Int),go d q (w++u)=go d (go d q w) u
 | [],_,_=>rfl
 | b::w,u,q=>go_app d w u _
theorem go_snoc (d:S55) (w:List Nat) (b:Nat) (q:Int):go d q (w++[b])=stp d (go d q w) (b:Int):=go_app d w [b] q
def ofL (w:List Nat):ByteArray:=strOfNums (w.map Int.ofNat)
theorem ofL_size (w:List Nat):(ofL w).size=w.length:=by unfold ofL;rw[strOf_size,List.length_map]
theorem ofL_get {w:List Nat} (h:Byt w) {i:Nat} (hi:i<w.length):byteAt (ofL w) (i:Int)=(w[i]:Int):=by
 have hi':i<(w.map Int.ofNat).length:=by simpa using hi
 unfold ofL
 rw[byteAt_strOf (w.map Int.ofNat) (fun x hx=>by
  obtain⟨b,hb,rfl⟩:=List.mem_map.1 hx
  have:=h b hb
  exact⟨by show (0:Int)≤(b:Int);omega,by show (b:Int)≤255;omega⟩) i hi',List.getElem_map];rfl
theorem rn_go {d:S55} {q:Int} {w:List Nat} (h:Byt w):∀ i:Nat,i≤w.length→rn d q (ofL w) i=go d q (w.take i)
 | 0,_=>by rw[List.take_zero];rfl
 | i+1,hi=>by
   have ih:=rn_go (d:=d) (q:=q) h i (by omega)
   show stp d (rn d q (ofL w) i) (byteAt (ofL w) i)=_
   rw[ih,ofL_get h (show i<w.length by omega),List.take_succ_eq_append_getElem (show i<w.length by omega),go_snoc]
theorem hs_LL (d:S55) {w:List Nat} (h:Byt w):hs d (ofL w)=LL d 0 w:=by
 unfold hs LL
 rw[ofL_size,rn_go h w.length (Nat.le_refl _),List.take_length]
theorem trim_LL {d:S55} (h:Dr d) {A:List Bool} (hA:AS d A) {w:List Nat} (hw:Byt w):LL (TRM d A) 0 w=LL d 0 w:=by
 rw[←hs_LL _ hw, ←hs_LL _ hw,trim_has h hA]
theorem order_LL {d:S55} (h:Dr d) {w:List Nat} (hw:Byt w):LL (ORD d) 0 w=LL d 0 w:=by
 rw[←hs_LL _ hw, ←hs_LL _ hw,order_has h]
theorem alive_key {e:S55} (h:Dr e) {kk:Nat→ByteArray} (k:Cut e kk) (s:Stb e kk) {i:Nat} (hi:i<e.f1.length) (ha:AL e (i:Int)) (hm:f0 e e.f1.length=0):kk i≠kk e.f1.length:=by
 obtain⟨q,r1,r2⟩:=ha
 intro eq
 have key:∀ p:Int,DR e (i:Int) p→∃ t:Nat,p=(t:Int)∧t<e.f1.length∧kk t=kk e.f1.length:=by
  intro p hp
  induction hp with
  | refl=>exact⟨i,rfl,hi,eq⟩
  | @step p c hp hc h0 ih=>
    obtain⟨t,rfl,t1,t2⟩:=ih
    have hrow:=h.row _ (mem_lget (l:=e.f1) (i:=(t:Int)) (by omega) (by omega))
    have hk:=KC_eq h
    have hc':c<KC e:=by
     have:(c:Int)<((lget e.f1 (t:Int)).length:Int):=hc
     omega
    have h0':0≤lget (lget e.f1 (t:Int)) (c:Int):=h0
    have ent:=h.ent _ (mem_lget (l:=e.f1) (i:=(t:Int)) (by omega) (by omega)) _ (mem_lget (l:=lget e.f1 (t:Int)) (i:=(c:Int)) (by omega) hc)
    have e1:=s t e.f1.length (by omega) (Nat.le_refl _) t2 c hc'
    have d1:dl e t c=(lget (lget e.f1 (t:Int)) (c:Int)).toNat:=by unfold dl;rw[if_pos ⟨t1,h0'⟩]
    have d2:dl e e.f1.length c=e.f1.length:=by unfold dl;rw[if_neg (fun q=>by omega)]
    rw[d1,d2]at e1
    exact⟨_,(show lget (lget e.f1 (t:Int)) (c:Int)=_ by omega),by omega,e1⟩
 obtain⟨t,rfl,t1,t2⟩:=key q r1
 have:=k.mark t e.f1.length (by omega) (Nat.le_refl _) t2
 rw[hm]at this
 unfold f0 at this
 omega
def TR (e:S55):Prop:=∀ i b:Nat,i<e.f1.length→b<256→0≤stp e (i:Int) (b:Int)→AL e (stp e (i:Int) (b:Int))
theorem f0_no {e:S55} (h:Dr e):f0 e e.f1.length=0:=by
 have hm:=h.ml
 have:mk e (e.f1.length:Int)= -1:=by unfold mk;rw[if_pos (.inr (by omega))]
 unfold f0;rw[this];rfl
theorem stp_dl {e:S55} (h:Dr e) {i b:Nat} (hi:i<e.f1.length) (hb:b<256):dl e i (cls e b)=(if 0≤stp e (i:Int) (b:Int)then(stp e (i:Int) (b:Int)).toNat else e.f1.length)∧stp e (i:Int) (b:Int)<(e.f1.length:Int)∧ -1≤stp e (i:Int) (b:Int):=by
 obtain⟨k1,k2,k3⟩:=stp_in h (q:=(i:Int)) (c:=(b:Int)) (by omega) (by omega) (by omega) (by omega)
 obtain⟨c1,c2⟩:=cls_eq h hb
 have hr:=stp_rng h (q:=(i:Int)) (c:=(b:Int)) ⟨by omega,by omega⟩ (by omega) (by omega)
 rw[c1]at k3
 refine⟨?_,hr.2,hr.1⟩
 have k3':stp e (i:Int) (b:Int)=lget (lget e.f1 (i:Int)) (cls e b:Int):=k3
 unfold dl
 by_cases q:0≤lget (lget e.f1 (i:Int)) (cls e b:Int)
 ·rw[if_pos ⟨hi,q⟩,k3',if_pos q]
 ·rw[if_neg (fun r=>q r.2),k3',if_neg q]
theorem step_block {e:S55} (h:Dr e) {kk:Nat→ByteArray} (k:Cut e kk) (s:Stb e kk) (t:TR e) {i j b:Nat} (hi:i<e.f1.length) (hj:j<e.f1.length) (hb:b<256) (eq:kk i=kk j):bt1 kk (stp e (i:Int) (b:Int))=bt1 kk (stp e (j:Int) (b:Int)):=by
 obtain⟨d1,r1,r2⟩:=stp_dl h hi hb
 obtain⟨d2,r3,r4⟩:=stp_dl h hj hb
 have e1:=s i j (by omega) (by omega) eq (cls e b) (cls_eq h hb).2
 rw[d1,d2]at e1
 unfold bt1
 by_cases q1:0≤stp e (i:Int) (b:Int)
 ·by_cases q2:0≤stp e (j:Int) (b:Int)
  ·rw[if_pos q1,if_pos q2]at e1
   rw[if_pos q1,if_pos q2]
   exact congrArg _ (ck_same kk e1)
  ·rw[if_pos q1,if_neg q2]at e1
   have ha:=t i b hi hb q1
   have:=alive_key h k s (i:=(stp e (i:Int) (b:Int)).toNat) (by omega) (by rw[Int.toNat_of_nonneg q1];exact ha) (f0_no h)
   exact absurd e1 this
 ·by_cases q2:0≤stp e (j:Int) (b:Int)
  ·rw[if_neg q1,if_pos q2]at e1
   have ha:=t j b hj hb q2
   have:=alive_key h k s (i:=(stp e (j:Int) (b:Int)).toNat) (by omega) (by rw[Int.toNat_of_nonneg q2];exact ha) (f0_no h)
   exact absurd e1.symm this
  ·rw[if_neg q1,if_neg q2];omega
theorem QO_len (e:S55) (kk:Nat→ByteArray):(QO e kk).f1.length=nc kk e.f1.length∧(QO e kk).f2.length=nc kk e.f1.length:=by
 have:=rps_len kk e.f1.length 0
 have z:nc kk 0=0:=rfl
 rw[z,Nat.add_zero,Nat.zero_add]at this
 exact⟨by show ((rps kk e.f1.length 0).map _).length=_;rw[List.length_map];exact this,by show ((rps kk e.f1.length 0).map _).length=_;rw[List.length_map];exact this⟩
theorem QO_get {e:S55} (kk:Nat→ByteArray) {i:Nat} (hi:i<e.f1.length):lget (QO e kk).f1 (ck kk i:Int)=(lget e.f1 (rc kk i:Int)).map (bt1 kk)∧lget (QO e kk).f2 (ck kk i:Int)=lget e.f2 (rc kk i:Int):=by
 have hr:=rc_spec kk i
 have hg:=rps_get kk e.f1.length 0 (rc kk i) (by omega) (by omega) (rc_rc kk i)
 have z:nc kk 0=0:=rfl
 rw[z,Nat.sub_zero]at hg
 have hg:(rps kk e.f1.length 0)[ck kk i]? =some (rc kk i):=hg
 constructor
 ·show lget ((rps kk e.f1.length 0).map fun i:Nat=>(lget e.f1 (i:Int)).map (bt1 kk)) (ck kk i:Int)=_
  unfold lget
  rw[Int.toNat_natCast,List.getD,List.getElem?_map,hg];rfl
 ·show lget ((rps kk e.f1.length 0).map fun i:Nat=>lget e.f2 (i:Int)) (ck kk i:Int)=_
  unfold lget
  rw[Int.toNat_natCast,List.getD,List.getElem?_map,hg];rfl
theorem ck_onto {kk:Nat→ByteArray}:∀ (n p:Nat),p<nc kk n→∃ i,i<n∧rc kk i=i∧nc kk i=p
 | 0,p,h=>by have:nc kk 0=0:=rfl;omega
 | n+1,p,h=>by
   by_cases q:p<nc kk n
   ·obtain⟨i,h1,h2⟩:=ck_onto n p q
    exact⟨i,by omega,h2⟩
   ·rw[nc]at h
    by_cases r:rc kk n=n
    ·rw[if_pos r]at h;exact⟨n,by omega,r,by omega⟩
    ·rw[if_neg r]at h;omega
theorem bt1_rng {e:S55} {kk:Nat→ByteArray} {x:Int} (h: -1≤x∧x<(e.f1.length:Int)): -1≤bt1 kk x∧bt1 kk x<(nc kk e.f1.length:Int):=by
 unfold bt1
 split
 ·have:=ck_lt (kk:=kk) (i:=x.toNat) (N:=e.f1.length) (by omega)
  omega
 ·omega
theorem QO_Dr {e:S55} (h:Dr e) (kk:Nat→ByteArray):Dr (QO e kk):=by
 obtain⟨l1,l2⟩:=QO_len e kk
 have hn:=h.n2
 have h1:=h.n1
 have hle:=nc_le kk e.f1.length
 have hml:=h.ml
 have hpos:0<nc kk e.f1.length:=by
  have:=ck_lt (kk:=kk) (i:=0) (N:=e.f1.length) (by omega)
  omega
 refine⟨by omega,by omega,by omega,h.vb,h.gap,fun r hr=>?_,fun r hr x hx=>?_,fun m hm=>?_⟩
 ·obtain⟨i,hi,rfl⟩:=List.mem_map.1 (show r∈(rps kk e.f1.length 0).map fun i:Nat=>(lget e.f1 (i:Int)).map (bt1 kk)from hr)
  have:=rps_mem kk _ _ i hi
  rw[List.length_map]
  exact h.row _ (mem_lget (by omega) (by omega))
 ·obtain⟨i,hi,rfl⟩:=List.mem_map.1 (show r∈(rps kk e.f1.length 0).map fun i:Nat=>(lget e.f1 (i:Int)).map (bt1 kk)from hr)
  obtain⟨y,hy,rfl⟩:=List.mem_map.1 hx
  have:=rps_mem kk _ _ i hi
  have:=bt1_rng (kk:=kk) (h.ent _ (mem_lget (l:=e.f1) (i:=(i:Int)) (by omega) (by omega)) y hy)
  rw[l1];exact this
 ·obtain⟨i,hi,rfl⟩:=List.mem_map.1 (show m∈(rps kk e.f1.length 0).map fun i:Nat=>lget e.f2 (i:Int)from hm)
  have:=rps_mem kk _ _ i hi
  exact h.mark _ (mem_lget (by omega) (by omega))
theorem QO_stp {e:S55} (h:Dr e) {kk:Nat→ByteArray} (k:Cut e kk) (s:Stb e kk) (t:TR e) {i b:Nat} (hi:i<e.f1.length) (hb:b<256):stp (QO e kk) (ck kk i:Int) (b:Int)=bt1 kk (stp e (i:Int) (b:Int)):=by
 have hr:=rc_spec kk i
 have hri:rc kk i<e.f1.length:=by omega
 obtain⟨g1,g2⟩:=QO_get kk hi
 obtain⟨l1,l2⟩:=QO_len e kk
 have hck:=ck_lt (kk:=kk) hi
 obtain⟨k1,k2,k3⟩:=stp_in (QO_Dr h kk) (q:=(ck kk i:Int)) (c:=(b:Int)) (by omega) (by omega) (by omega) (by omega)
 obtain⟨m1,m2,m3⟩:=stp_in h (q:=(rc kk i:Int)) (c:=(b:Int)) (by omega) (by omega) (by omega) (by omega)
 rw[←step_block h k s t hri hi hb hr.2.1,m3,k3]
 show lget (lget (QO e kk).f1 (ck kk i:Int)) (vget e.f0 (b:Int))=_
 rw[g1,lget_map _ _ m1 m2]
theorem byt_nil:Byt []:=fun b hb=>by cases hb
theorem Byt.app {w u:List Nat} (h:Byt w) (k:Byt u):Byt (w++u):=fun x hx=>(List.mem_append.1 hx).elim (h x) (k x)
theorem Byt.tl {b:Nat} {w:List Nat} (h:Byt (b::w)):Byt w:=fun x hx=>h x (.tail _ hx)
theorem Byt.hd {b:Nat} {w:List Nat} (h:Byt (b::w)):b<256:=h b (.head _)
theorem byt_one {b:Nat} (h:b<256):Byt [b]:=fun x hx=>by have:x=b:=by simpa using hx
                                                        omega
theorem Byt.cons {b:Nat} {w:List Nat} (h:b<256) (k:Byt w):Byt (b::w):=Byt.app (byt_one h) k
theorem stp_row {d:S55} (h:Dr d) {p:Int} {c:Nat} (h0:0≤p) (h1:p<(d.f1.length:Int)) (hc:(c:Int)<((rw' d p).length:Int)):∃ b:Nat,b<256∧stp d p (b:Int)=lget (rw' d p) (c:Int):=by
 have hk:=h.rowk h0 h1
 have hk':((rw' d p).length:Int)=kcl d.f0:=hk
 obtain⟨b,hb,e⟩:=h.gap c (by omega)
 obtain⟨k1,k2,k3⟩:=stp_in h h0 h1 (c:=(b:Int)) (by omega) (by omega)
 exact⟨b,hb,by rw[k3,e]⟩
theorem DR_go {d:S55} (h:Dr d) {s q:Int} (hs:0≤s∧s<(d.f1.length:Int)) (k:DR d s q):∃ w,Byt w∧go d s w=q:=by
 induction k with
 | refl=>exact⟨[],byt_nil,rfl⟩
 | @step p c hp hc h0 ih=>
   obtain⟨w,w1,w2⟩:=ih
   have hr:=DR.in h hs hp
   obtain⟨b,b1,b2⟩:=stp_row h hr.1 hr.2 hc
   exact⟨w++[b],w1.app (byt_one b1),by rw[go_snoc,w2,b2]⟩
theorem go_neg (d:S55):∀ w:List Nat,go d (-1) w= -1
 | []=>rfl
 | b::w=>by rw[go,stp_neg];exact go_neg d w
theorem LL_neg (d:S55) (w:List Nat):LL d (-1) w= -1:=by unfold LL;rw[go_neg,mk_neg]
theorem go_rng {d:S55} (h:Dr d):∀ (w:List Nat) (q:Int),Byt w→ -1≤q∧q<(d.f1.length:Int)→ -1≤go d q w∧go d q w<(d.f1.length:Int)
 | [],q,_,hq=>hq
 | b::w,q,hw,hq=>by
   have:=hw.hd
   exact go_rng h w _ hw.tl (stp_rng h hq (by omega) (by omega))
theorem stp_DR {d:S55} (h:Dr d) {q:Int} {b:Nat} (h0:0≤q) (h1:q<(d.f1.length:Int)) (hb:b<256) (hn:0≤stp d q (b:Int)):DR d q (stp d q (b:Int)):=by
 obtain⟨k1,k2,k3⟩:=stp_in h h0 h1 (c:=(b:Int)) (by omega) (by omega)
 obtain⟨c,hc⟩:=Int.eq_ofNat_of_zero_le k1
 rw[hc]at k3 k2
 rw[k3]at hn⊢
 exact DR.step .refl k2 hn
theorem go_DR {d:S55} (h:Dr d):∀ (w:List Nat) (q:Int),Byt w→0≤q→q<(d.f1.length:Int)→0≤go d q w→DR d q (go d q w)
 | [],q,_,_,_,_=>.refl
 | b::w,q,hw,h0,h1,hn=>by
   have hb:=hw.hd
   have hr:=stp_rng h (q:=q) (c:=(b:Int)) ⟨by omega,h1⟩ (by omega) (by omega)
   by_cases a:stp d q (b:Int)= -1
   ·rw[go,a,go_neg]at hn;omega
   ·have hs:=stp_DR h h0 h1 hb (by omega)
    exact hs.trans (go_DR h w _ hw.tl (by omega) hr.2 hn)
theorem LL_ge {d:S55} (h:Dr d) (q:Int) (w:List Nat): -1≤LL d q w:=(mk_ge h _).1
theorem LL_pos {d:S55} (h:Dr d) {q:Int} {w:List Nat} (hw:Byt w) (hq: -1≤q∧q<(d.f1.length:Int)) (hl:0≤LL d q w):0≤go d q w:=by
 have:=go_rng h w q hw hq
 by_cases a:go d q w= -1
 ·unfold LL at hl;rw[a,mk_neg]at hl;omega
 ·omega
theorem AL_iff {d:S55} (h:Dr d) {q:Int} (h0:0≤q) (h1:q<(d.f1.length:Int)):AL d q↔∃ w,Byt w∧0≤LL d q w:=by
 constructor
 ·rintro⟨r,r1,r2⟩
  obtain⟨w,w1,w2⟩:=DR_go h ⟨h0,h1⟩ r1
  exact⟨w,w1,by unfold LL;rw[w2];exact r2⟩
 ·rintro⟨w,w1,w2⟩
  exact⟨_,go_DR h w q w1 h0 h1 (LL_pos h w1 ⟨by omega,h1⟩ w2),w2⟩
theorem TRM_len (d:S55) (A:List Bool):(TRM d A).f1.length=d.f1.length:=by show (d.f1.map _).length=_;rw[List.length_map]
theorem TRM_stp {d:S55} (h:Dr d) (A:List Bool) {q:Int} {b:Nat} (h0:0≤q) (h1:q<(d.f1.length:Int)) (hb:b<256):stp (TRM d A) q (b:Int)=tr A (stp d q (b:Int)):=by
 obtain⟨k1,k2,k3⟩:=stp_in h h0 h1 (c:=(b:Int)) (by omega) (by omega)
 obtain⟨m1,m2,m3⟩:=stp_in (TRM_Dr h A) (q:=q) (c:=(b:Int)) h0 (by rw[TRM_len];exact h1) (by omega) (by omega)
 rw[m3,k3,TRM_row A h0 h1]
 exact lget_map (tr A) _ k1 k2
theorem TRM_LL {d:S55} (h:Dr d) {A:List Bool} (hA:AS d A):∀ (w:List Nat) (q:Int),Byt w→ -1≤q∧q<(d.f1.length:Int)→LL (TRM d A) q w=LL d q w
 | [],q,_,_=>rfl
 | b::w,q,hw,hq=>by
   have hb:=hw.hd
   by_cases a:q= -1
   ·rw[a,LL_neg,LL_neg]
   ·have hr:=stp_rng h (q:=q) (c:=(b:Int)) hq (by omega) (by omega)
    have e1:LL (TRM d A) q (b::w)=LL (TRM d A) (tr A (stp d q (b:Int))) w:=by
     show LL (TRM d A) (stp (TRM d A) q (b:Int)) w=_
     rw[TRM_stp h A (by omega) hq.2 hb]
    have e2:LL d q (b::w)=LL d (stp d q (b:Int)) w:=rfl
    rw[e1,e2]
    unfold tr
    by_cases c:0≤stp d q (b:Int)∧lget A (stp d q (b:Int))=false
    ·rw[if_pos c,LL_neg]
     have hna:¬ AL d (stp d q (b:Int)):=fun k=>by
      have:=(hA.2 _ c.1 hr.2).2 k
      rw[c.2]at this;cases this
     have hge:=LL_ge h (stp d q (b:Int)) w
     by_cases x:0≤LL d (stp d q (b:Int)) w
     ·exact absurd ((AL_iff h c.1 hr.2).2 ⟨w,hw.tl,x⟩) hna
     ·omega
    ·rw[if_neg c]
     exact TRM_LL h hA w _ hw.tl hr
theorem pl_neg1 {d:S55} (h:Dr d):pl (OL d) (-1)= -1:=pl_not fun k=>by have:=((OL_OI h).rng _ k).1;omega
theorem ORD_go {d:S55} (h:Dr d):∀ (w:List Nat) (q:Int),Byt w→(q= -1∨q∈OL d)→go (ORD d) (pl (OL d) q) w=pl (OL d) (go d q w)∧(go d q w= -1∨go d q w∈OL d)
 | [],q,_,hq=>⟨rfl,hq⟩
 | b::w,q,hw,hq=>by
   have hb:=hw.hd
   rcases hq with e|e
   ·rw[e,pl_neg1 h,go_neg,go_neg]
    exact⟨(pl_neg1 h).symm,.inl rfl⟩
   ·obtain⟨s1,s2⟩:=ORD_stp h e (c:=(b:Int)) (by omega) (by omega)
    have:=ORD_go h w (stp d q (b:Int)) hw.tl s2
    rw[go,go,s1]
    exact this
theorem ORD_mk' {d:S55} (h:Dr d) {q:Int} (hq:q= -1∨q∈OL d):mk (ORD d) (pl (OL d) q)=mk d q:=by
 rcases hq with e|e
 ·rw[e,pl_neg1 h,mk_neg,mk_neg]
 ·exact ORD_mk h e
theorem ORD_LL {d:S55} (h:Dr d) {w:List Nat} {q:Int} (hw:Byt w) (hq:q= -1∨q∈OL d):LL (ORD d) (pl (OL d) q) w=LL d q w:=by
 obtain⟨g1,g2⟩:=ORD_go h w q hw hq
 unfold LL
 rw[g1]
 exact ORD_mk' h g2
theorem pl_idx {L:List Int} (hn:L.Nodup) {i:Nat} (hi:i<L.length):pl L (lget L (i:Int))=(i:Int):=by
 have hm:lget L (i:Int)∈L:=mem_lget (by omega) (by omega)
 obtain⟨j,j1,j2,j3⟩:=pl_get hm
 rw[j2]
 rw[lget_lt _ j j1,lget_lt _ i hi]at j3
 have hp:=List.pairwise_iff_getElem.1 hn
 rcases Nat.lt_trichotomy i j with a|a|a
 ·exact absurd j3.symm (hp i j hi j1 a)
 ·omega
 ·exact absurd j3 (hp j i j1 hi a)
def RCH (e:S55):Prop:=∀ i:Nat,i<e.f1.length→∃ w,Byt w∧go e 0 w=(i:Int)
theorem ORD_RCH {d:S55} (h:Dr d):RCH (ORD d):=by
 intro i hi
 rw[ORD_len]at hi
 have hO:=OL_OI h
 have hm:lget (OL d) (i:Int)∈OL d:=mem_lget (by omega) (by omega)
 have hn:=h.n1
 obtain⟨w,w1,w2⟩:=DR_go h (s:=0) (by omega) (hO.rch _ hm)
 obtain⟨z1,z2⟩:=ORD_zero h
 have:=(ORD_go h w 0 w1 (.inr z1)).1
 rw[z2,w2,pl_idx hO.nd hi]at this
 exact⟨w,w1,this⟩
theorem TRM_ORD_TR {d:S55} (h:Dr d) {A:List Bool} (hA:AS d A):TR (ORD (TRM d A)):=by
 have hT:=TRM_Dr h A
 have hO:=OL_OI hT
 intro i b hi hb hp
 have hi':=hi
 rw[ORD_len]at hi'
 have hm:lget (OL (TRM d A)) (i:Int)∈OL (TRM d A):=mem_lget (by omega) (by omega)
 have hr:=hO.rng _ hm
 rw[TRM_len]at hr
 obtain⟨s1,s2⟩:=ORD_stp hT hm (c:=(b:Int)) (by omega) (by omega)
 rw[pl_idx hO.nd hi']at s1
 have hne:stp (TRM d A) (lget (OL (TRM d A)) (i:Int)) (b:Int)≠ -1:=fun e=>by
  rw[e,pl_neg1 hT]at s1;omega
 have s3:=s2.resolve_left hne
 rw[TRM_stp h A hr.1 hr.2 hb]at s1 s3 hne
 have hrg:=stp_rng h (q:=lget (OL (TRM d A)) (i:Int)) (c:=(b:Int)) (by omega) (by omega) (by omega)
 generalize stp d (lget (OL (TRM d A)) (i:Int)) (b:Int)=p at *
 have hal:0≤p∧AL d p:=by
  unfold tr at hne
  by_cases c:0≤p∧lget A p=false
  ·rw[if_pos c]at hne;exact absurd rfl hne
  ·rw[if_neg c]at hne
   refine⟨by omega,(hA.2 _ (by omega) hrg.2).1 ?_⟩
   cases hx:lget A p with
   | true=>rfl
   | false=>exact absurd ⟨by omega,hx⟩ c
 have etr:tr A p=p:=by
  unfold tr
  rw[if_neg]
  rintro⟨_,c⟩
  rw[(hA.2 _ hal.1 hrg.2).2 hal.2]at c;cases c
 rw[etr]at s1 s3
 obtain⟨w,w1,w2⟩:=(AL_iff h hal.1 hrg.2).1 hal.2
 rw[s1]at hp⊢
 have hlt:=(pl_lt (L:=OL (TRM d A)) p).2
 refine(AL_iff (ORD_Dr hT) hp (by rw[ORD_len];exact hlt)).2 ⟨w,w1,?_⟩
 rw[ORD_LL hT w1 (.inr s3),TRM_LL h hA w p w1 (by omega)]
 exact w2
theorem f0_mk {e:S55} (h:Dr e) {i j:Nat} (k:f0 e i=f0 e j):mk e (i:Int)=mk e (j:Int):=by
 have h1:=mk_ge h (i:Int)
 have h2:=mk_ge h (j:Int)
 unfold f0 at k
 omega
theorem bt1_nat (kk:Nat→ByteArray) (i:Nat):bt1 kk (i:Int)=(ck kk i:Int):=by
 unfold bt1;rw[if_pos (by omega),Int.toNat_natCast]
theorem bt1_neg (kk:Nat→ByteArray):bt1 kk (-1)= -1:=rfl
theorem QO_mk {e:S55} (h:Dr e) {kk:Nat→ByteArray} (k:Cut e kk) {q:Int} (hq: -1≤q∧q<(e.f1.length:Int)):mk (QO e kk) (bt1 kk q)=mk e q:=by
 by_cases a:q= -1
 ·rw[a,bt1_neg,mk_neg,mk_neg]
 ·obtain⟨i,rfl⟩:=Int.eq_ofNat_of_zero_le (show 0≤q by omega)
  have hi:i<e.f1.length:=by omega
  have hr:=rc_spec kk i
  obtain⟨l1,l2⟩:=QO_len e kk
  have hck:=ck_lt (kk:=kk) hi
  rw[bt1_nat,mk_in (QO_Dr h kk) (by omega) (by omega),(QO_get kk hi).2, ←mk_in h (by omega) (by omega)]
  exact f0_mk h (k.mark _ _ (by omega) (by omega) hr.2.1)
theorem QO_go {e:S55} (h:Dr e) {kk:Nat→ByteArray} (k:Cut e kk) (s:Stb e kk) (t:TR e):∀ (w:List Nat) (q:Int),Byt w→ -1≤q∧q<(e.f1.length:Int)→go (QO e kk) (bt1 kk q) w=bt1 kk (go e q w)
 | [],_,_,_=>rfl
 | b::w,q,hw,hq=>by
   have hb:=hw.hd
   by_cases a:q= -1
   ·rw[a,bt1_neg,go_neg,go_neg];rfl
   ·obtain⟨i,rfl⟩:=Int.eq_ofNat_of_zero_le (show 0≤q by omega)
    have hr:=stp_rng h (q:=(i:Int)) (c:=(b:Int)) hq (by omega) (by omega)
    rw[go,go,bt1_nat,QO_stp h k s t (by omega) hb]
    exact QO_go h k s t w _ hw.tl hr
theorem QO_LL {e:S55} (h:Dr e) {kk:Nat→ByteArray} (k:Cut e kk) (s:Stb e kk) (t:TR e) {w:List Nat} {q:Int} (hw:Byt w) (hq: -1≤q∧q<(e.f1.length:Int)):LL (QO e kk) (bt1 kk q) w=LL e q w:=by
 unfold LL
 rw[QO_go h k s t w q hw hq]
 exact QO_mk h k (go_rng h w q hw hq)
theorem block_iff {e:S55} (h:Dr e) {kk:Nat→ByteArray} (k:Cut e kk) (s:Stb e kk) (t:TR e) {i j:Nat} (hi:i<e.f1.length) (hj:j<e.f1.length):kk i=kk j↔∀ w,Byt w→LL e (i:Int) w=LL e (j:Int) w:=by
 constructor
 ·intro eq w hw
  rw[←QO_LL h k s t hw (q:=(i:Int)) (by omega), ←QO_LL h k s t hw (q:=(j:Int)) (by omega),bt1_nat,bt1_nat,ck_same kk eq]
 ·intro hl
  let E:Nat→Nat→Prop:=fun i j=>∀ w,Byt w→LL e (if i<e.f1.length then(i:Int)else -1) w=LL e (if j<e.f1.length then(j:Int)else -1) w
  have stepE:∀ i,i≤e.f1.length→∀ b,b<256→∀ w,Byt w→LL e (if dl e i (cls e b)<e.f1.length then(dl e i (cls e b):Int)else -1) w=LL e (if i<e.f1.length then(i:Int)else -1) (b::w):=by
   intro i hi b hb w hw
   by_cases a:i<e.f1.length
   ·rw[if_pos a]
    obtain⟨d1,r1,r2⟩:=stp_dl h a hb
    rw[d1]
    by_cases c:0≤stp e (i:Int) (b:Int)
    ·rw[if_pos c,if_pos (by omega),Int.toNat_of_nonneg c];rfl
    ·rw[if_neg c,if_neg (by omega)]
     have:stp e (i:Int) (b:Int)= -1:=by omega
     show _=LL e (stp e (i:Int) (b:Int)) w
     rw[this]
   ·rw[if_neg a,LL_neg]
    have:dl e i (cls e b)=e.f1.length:=by unfold dl;rw[if_neg (fun q=>a q.1)]
    rw[this,if_neg (by omega),LL_neg]
  have hB:Bis e E:=by
   intro i j hi hj hE
   refine⟨?_,fun c hc w hw=>?_⟩
   ·have m0:∀ i,i≤e.f1.length→LL e (if i<e.f1.length then(i:Int)else -1) []=mk e (i:Int):=by
     intro i hi
     by_cases a:i<e.f1.length
     ·rw[if_pos a];rfl
     ·rw[if_neg a,LL_neg]
      have hm:=h.ml
      unfold mk
      rw[if_pos (.inr (by omega))]
    have:=hE [] byt_nil
    rw[m0 i hi,m0 j hj]at this
    unfold f0
    rw[this]
   ·have hk:=KC_eq h
    obtain⟨b,hb,eb⟩:=h.gap c (by omega)
    have ec:cls e b=c:=by unfold cls;rw[eb,Int.toNat_natCast]
    have:=hE (b::w) (Byt.cons hb hw)
    rw[←stepE i hi b hb w hw, ←stepE j hj b hb w hw,ec]at this
    exact this
  refine k.bis E hB i j (by omega) (by omega) fun w hw=>?_
  rw[if_pos hi,if_pos hj]
  exact hl w hw
theorem pos_iff {e:S55} (h:Dr e) (t:TR e) {w:List Nat} (hw:Byt w):0≤go e 0 w↔w=[]∨∃ u,Byt u∧0≤LL e 0 (w++u):=by
 have h1:=h.n1
 constructor
 ·intro hp
  rcases List.eq_nil_or_concat w with rfl|⟨v,b,rfl⟩
  ·exact .inl rfl
  ·right
   have e0:v.concat b=v++[b]:=List.concat_eq_append
   rw[e0]at hp hw⊢
   have hv:Byt v:=fun x hx=>hw x (List.mem_append_left _ hx)
   have hb:b<256:=hw b (by simp)
   rw[go_snoc]at hp
   have hg:=go_rng h v 0 hv (by omega)
   by_cases a:go e 0 v= -1
   ·rw[a,stp_neg]at hp;omega
   ·obtain⟨i,hi⟩:=Int.eq_ofNat_of_zero_le (show 0≤go e 0 v by omega)
    have hr:=stp_rng h (q:=go e 0 v) (c:=(b:Int)) hg (by omega) (by omega)
    rw[hi]at hp hg hr
    obtain⟨u,u1,u2⟩:=(AL_iff h hp hr.2).1 (t i b (by omega) hb hp)
    refine⟨u,u1,?_⟩
    unfold LL
    rw[go_app,go_snoc,hi]
    exact u2
 ·rintro (rfl|⟨u,u1,u2⟩)
  ·show (0:Int)≤0;omega
  ·have hg:=go_rng h w 0 hw (by omega)
   by_cases a:go e 0 w= -1
   ·unfold LL at u2;rw[go_app,a,go_neg,mk_neg]at u2;omega
   ·omega
theorem LL_app (e:S55) (q:Int) (w u:List Nat):LL e q (w++u)=LL e (go e q w) u:=by unfold LL;rw[go_app]
def bw (e:S55) (kk:Nat→ByteArray) (w:List Nat):Int:=bt1 kk (go e 0 w)
theorem bt1_nn (kk:Nat→ByteArray) {x:Int} (h: -1≤x):(0≤bt1 kk x↔0≤x):=by
 unfold bt1;split<;>omega
theorem bw_iff {e:S55} (h:Dr e) {kk:Nat→ByteArray} (k:Cut e kk) (s:Stb e kk) (t:TR e) {w w':List Nat} (hw:Byt w) (hw':Byt w'):bw e kk w=bw e kk w'↔(0≤go e 0 w↔0≤go e 0 w')∧∀ u,Byt u→LL e 0 (w++u)=LL e 0 (w'++u):=by
 have h1:=h.n1
 have g1:=go_rng h w 0 hw (by omega)
 have g2:=go_rng h w' 0 hw' (by omega)
 have lapp:∀ w u,LL e 0 (w++u)=LL e (go e 0 w) u:=fun w u=>LL_app e 0 w u
 unfold bw
 constructor
 ·intro eq
  refine⟨?_,fun u hu=>?_⟩
  ·rw[←bt1_nn kk g1.1, ←bt1_nn kk g2.1,eq]
  ·rw[lapp,lapp, ←QO_LL h k s t hu g1, ←QO_LL h k s t hu g2,eq]
 ·rintro⟨e1,e2⟩
  by_cases a:0≤go e 0 w
  ·obtain⟨i,hi⟩:=Int.eq_ofNat_of_zero_le a
   obtain⟨j,hj⟩:=Int.eq_ofNat_of_zero_le (e1.1 a)
   rw[hi,hj,bt1_nat,bt1_nat]
   have:=(block_iff h k s t (i:=i) (j:=j) (by omega) (by omega)).2 fun u hu=>by
    have:=e2 u hu
    rw[lapp,lapp,hi,hj]at this;exact this
   rw[ck_same kk this]
  ·have b:¬ 0≤go e 0 w':=fun q=>a (e1.2 q)
   rw[show go e 0 w= -1 by omega,show go e 0 w'= -1 by omega]
theorem kcol_iff {q:S55} (h:Dr q) {b c:Nat} (hb:b<256) (hc:c<256):kcol q b=kcol q c↔∀ p:Nat,p<q.f1.length→stp q (p:Int) (b:Int)=stp q (p:Int) (c:Int):=by
 obtain⟨b1,b2⟩:=cls_eq h hb
 obtain⟨c1,c2⟩:=cls_eq h hc
 have hk:=KC_eq h
 have hn:=h.n2
 have st:∀ (p:Nat) (x:Nat),p<q.f1.length→x<256→stp q (p:Int) (x:Int)=lget (lget q.f1 (p:Int)) (cls q x:Int):=by
  intro p x hp hx
  obtain⟨k1,k2,k3⟩:=stp_in h (q:=(p:Int)) (c:=(x:Int)) (by omega) (by omega) (by omega) (by omega)
  rw[(cls_eq h hx).1]at k3;exact k3
 have en:∀ r∈q.f1,∀ x,x<256→ -1≤lget r (cls q x:Int)∧lget r (cls q x:Int)<(q.f1.length:Int):=by
  intro r hr x hx
  have:=h.row r hr
  have:=(cls_eq h hx).2
  exact h.ent r hr _ (mem_lget (by omega) (by omega))
 have rng:∀ x,x<256→∀ v∈CL2 q (cls q x),v<65536:=by
  intro x hx v hv
  obtain⟨r,hr,rfl⟩:=List.mem_map.1 hv
  have:=en r hr x hx
  omega
 unfold kcol
 constructor
 ·intro e p hp
  have e:=enc2_inj (strOf_inj (enc2_rng (rng b hb)) (enc2_rng (rng c hc)) e)
  have hr:lget q.f1 (p:Int)∈q.f1:=mem_lget (by omega) (by omega)
  have:=List.map_inj_left.1 e _ hr
  have r1:=en _ hr b hb
  have r2:=en _ hr c hc
  rw[st p b hp hb,st p c hp hc]
  omega
 ·intro e
  have:CL2 q (cls q b)=CL2 q (cls q c):=by
   unfold CL2
   refine List.map_inj_left.2 fun r hr=>?_
   obtain⟨p,hp,rfl⟩:=lget_mem hr
   have:=e p hp
   rw[st p b hp hb,st p c hp hc]at this
   rw[this]
  rw[this]
def CM (q:S55) (v:Vector Int 256):S55:=S55.mk v (q.f1.map fun r=>(KB q).map fun c=>lget r c) q.f2
def CV (q:S55) (v:Vector Int 256):Prop:=∀ c:Nat,c<256→vget v (c:Int)=(ck (kcol q) c:Int)
theorem CV_out (v:Vector Int 256) {c:Int} (h:¬ c.toNat<256):vget v c=0:=by
 have:v.toList[c.toNat]? =none:=List.getElem?_eq_none (by simp;omega)
 simp only[vget,List.getD,this];rfl
theorem CM_vb {q:S55} {v:Vector Int 256} (h:CV q v):VB v:=by
 intro c
 by_cases hc:c.toNat<256
 ·by_cases h0:0≤c
  ·obtain⟨n,rfl⟩:=Int.eq_ofNat_of_zero_le h0
   rw[h n (by omega)]
   have:=ck_le (kcol q) n
   omega
  ·have e:vget v c=vget v ((0:Nat):Int):=by unfold vget;rw[show c.toNat=0 by omega];rfl
   rw[e,h 0 (by omega)]
   have:=ck_le (kcol q) 0
   omega
 ·rw[CV_out v hc];omega
theorem CM_kcl {q:S55} {v:Vector Int 256} (h:CV q v):kcl v=(nc (kcol q) 256:Int):=by
 have h1:=count_eq (CM_vb h)
 have h2:=bcount_l (kk:=kcol q) v h 256 0 5000 (by omega) (by omega)
 have h3:F101 5000 v=F101_l1 5000 v 5000 (nc (kcol q) 0:Int) (0:Int):=rfl
 rw[h3]at h1
 rw[Int.natCast_zero]at h2
 rw[h2]at h1
 exact(Option.some.inj h1).symm
theorem KB_size (q:S55):(KB q).length=nc (kcol q) 256:=by
 unfold KB
 rw[List.length_map]
 have:=rps_len (kcol q) 256 0
 have z:nc (kcol q) 0=0:=rfl
 rw[z,Nat.zero_add,Nat.add_zero]at this
 exact this
theorem KB_get (q:S55) {b:Nat} (hb:b<256):(KB q)[ck (kcol q) b]? =some (cls q (rc (kcol q) b):Int):=by
 have hr:=rc_spec (kcol q) b
 have hg:=rps_get (kcol q) 256 0 (rc (kcol q) b) (by omega) (by omega) (rc_rc (kcol q) b)
 have z:nc (kcol q) 0=0:=rfl
 rw[z,Nat.sub_zero]at hg
 have hg:(rps (kcol q) 256 0)[ck (kcol q) b]? =some (rc (kcol q) b):=hg
 unfold KB
 rw[List.getElem?_map,hg];rfl
theorem CM_len (q:S55) (v:Vector Int 256):(CM q v).f1.length=q.f1.length:=by show (q.f1.map _).length=_;rw[List.length_map]
theorem CM_Dr {q:S55} (h:Dr q) {v:Vector Int 256} (hv:CV q v):Dr (CM q v):=by
 have hk:=CM_kcl hv
 refine⟨by rw[CM_len];exact h.n1,by rw[CM_len];exact h.n2,by rw[CM_len];exact h.ml,CM_vb hv,fun c hc=>?_,fun r hr=>?_,fun r hr x hx=>?_,h.mark⟩
 ·have hc':(c:Int)<kcl v:=hc
  obtain⟨b,b1,b2,b3⟩:=ck_onto (kk:=kcol q) 256 c (by omega)
  refine⟨b,b1,?_⟩
  show vget v (b:Int)=_
  rw[hv b b1];unfold ck;rw[b2,b3]
 ·obtain⟨r',hr',rfl⟩:=List.mem_map.1 (show r∈q.f1.map fun r=>(KB q).map fun c=>lget r c from hr)
  rw[List.length_map,KB_size];exact hk.symm
 ·obtain⟨r',hr',rfl⟩:=List.mem_map.1 (show r∈q.f1.map fun r=>(KB q).map fun c=>lget r c from hr)
  obtain⟨c,hc,rfl⟩:=List.mem_map.1 hx
  obtain⟨k1,k2⟩:=KB_mem h hc
  have hrow:=h.row r' hr'
  rw[CM_len]
  exact h.ent r' hr' _ (mem_lget k1 (by omega))
theorem CM_stp {q:S55} (h:Dr q) {v:Vector Int 256} (hv:CV q v) {p b:Nat} (hp:p<q.f1.length) (hb:b<256):stp (CM q v) (p:Int) (b:Int)=stp q (p:Int) (b:Int):=by
 obtain⟨k1,k2,k3⟩:=stp_in (CM_Dr h hv) (q:=(p:Int)) (c:=(b:Int)) (by omega) (by rw[CM_len];omega) (by omega) (by omega)
 have hr:=rc_spec (kcol q) b
 rw[k3]
 show lget (rw' (CM q v) (p:Int)) (vget v (b:Int))=_
 rw[hv b hb]
 have e:lget (rw' (CM q v) (p:Int)) (ck (kcol q) b:Int)=lget (lget q.f1 (p:Int)) (cls q (rc (kcol q) b):Int):=by
  show lget (lget (q.f1.map fun r=>(KB q).map fun c=>lget r c) (p:Int)) _=_
  rw[lget_map _ _ (by omega) (by omega)]
  show (List.map (fun c=>lget (lget q.f1 (p:Int)) c) (KB q)).getD (ck (kcol q) b:Int).toNat default=_
  rw[Int.toNat_natCast,List.getD,List.getElem?_map,KB_get q hb];rfl
 rw[e]
 obtain⟨m1,m2,m3⟩:=stp_in h (q:=(p:Int)) (c:=(rc (kcol q) b:Int)) (by omega) (by omega) (by omega) (by omega)
 rw[(cls_eq h (b:=rc (kcol q) b) (by omega)).1]at m3
 rw[←(kcol_iff h (b:=rc (kcol q) b) (c:=b) (by omega) hb).1 hr.2.1 p hp]
 exact m3.symm
theorem CM_LL {q:S55} (h:Dr q) {v:Vector Int 256} (hv:CV q v):∀ (w:List Nat) (p:Int),Byt w→ -1≤p∧p<(q.f1.length:Int)→LL (CM q v) p w=LL q p w
 | [],p,_,_=>rfl
 | b::w,p,hw,hp=>by
   have hb:=hw.hd
   by_cases a:p= -1
   ·rw[a,LL_neg,LL_neg]
   ·obtain⟨i,rfl⟩:=Int.eq_ofNat_of_zero_le (show 0≤p by omega)
    have hr:=stp_rng h (q:=(i:Int)) (c:=(b:Int)) hp (by omega) (by omega)
    show LL (CM q v) (stp (CM q v) (i:Int) (b:Int)) w=LL q (stp q (i:Int) (b:Int)) w
    rw[CM_stp h hv (by omega) hb]
    exact CM_LL h hv w _ hw.tl hr
structure Iso (a b:S55) (φ:Int→Int) (V:Int→Prop):Prop where
 f0:b.f0=a.f0
 z:φ 0=0
 vz:V 0
 pos:∀ x,V x→(0≤φ x↔0≤x)
 inj:∀ x y,V x→V y→φ x=φ y→x=y
 row:∀ x,V x→0≤x→rw' b (φ x)=(rw' a x).map φ∧∀ y∈rw' a x,V y
 mark:∀ x,V x→0≤x→lget b.f2 (φ x)=lget a.f2 x
variable {a b:S55} {φ:Int→Int} {V:Int→Prop}
theorem Iso.mem (h:Iso a b φ V) {L:List Int} (hL:∀ y∈L,V y) {x:Int} (hx:V x):φ x∈L.map φ↔x∈L:=by
 constructor
 ·intro k
  obtain⟨y,y1,y2⟩:=List.mem_map.1 k
  rw[←h.inj y x (hL y y1) hx y2];exact y1
 ·intro k;exact List.mem_map_of_mem k
structure Mid (e:S55) (kk:Nat→ByteArray):Prop where
 dr:Dr e
 cut:Cut e kk
 stb:Stb e kk
 tr:TR e
 rch:RCH e
theorem Mid.of {d:S55} (h:Dr d) {A:List Bool} (hA:AS d A) {kk:Nat→ByteArray} (k:Cut (ORD (TRM d A)) kk) (s:Stb (ORD (TRM d A)) kk):Mid (ORD (TRM d A)) kk:=
 ⟨ORD_Dr (TRM_Dr h A),k,s,TRM_ORD_TR h hA,ORD_RCH (TRM_Dr h A)⟩
def SLm (e e':S55):Prop:=∀ w,Byt w→LL e 0 w=LL e' 0 w
theorem SLm.symm {e e':S55} (h:SLm e e'):SLm e' e:=fun w hw=>(h w hw).symm
theorem SLm.trans {a b c:S55} (h:SLm a b) (k:SLm b c):SLm a c:=fun w hw=>(h w hw).trans (k w hw)
open Classical in
theorem bw_pos {e:S55} {kk:Nat→ByteArray} (m:Mid e kk) {w:List Nat} (hw:Byt w):0≤bw e kk w↔0≤go e 0 w:=by
 have h1:=m.dr.n1
 have hg:=go_rng m.dr w 0 hw (by omega)
 exact bt1_nn kk hg.1
structure MO (d x:S55):Prop where
 dr:Dr x
 sl:SLm x d
theorem of_eq {d:S55} (h:Dr d) (hr:F78 5000 d=some true) (hrr:∀ e,Dr e→F78 5000 e=some true):∃ e kk v,Mid e kk∧SLm e d∧CV (QO e kk) v∧F63 5000 d=some (ORD (CM (QO e kk) v),0):=by
 obtain⟨A,kk,hA,hc,hs,eq⟩:=of_mid h hr hrr
 have m:=Mid.of h hA hc hs
 obtain⟨v,v1,v2⟩:=mclasses_eq (QO_Dr m.dr kk)
 refine⟨_,kk,v,m,fun w hw=>?_,v1,?_⟩
 ·rw[order_LL (TRM_Dr h A) hw,trim_LL h hA hw]
 ·have:F82 5000 (QO (ORD (TRM d A)) kk)=some (CM (QO (ORD (TRM d A)) kk) v):=v2
  rw[eq,this,Option.bind_some,order_eq (CM_Dr (QO_Dr m.dr kk) v1),Option.bind_some]
theorem CMO {e:S55} {kk:Nat→ByteArray} (m:Mid e kk) {v:Vector Int 256} (hv:CV (QO e kk) v):MO e (ORD (CM (QO e kk) v)):=by
 have hQ:=QO_Dr m.dr kk
 have h1:=m.dr.n1
 have q1:=hQ.n1
 refine⟨ORD_Dr (CM_Dr hQ hv),fun w hw=>?_⟩
 rw[order_LL (CM_Dr hQ hv) hw,CM_LL hQ hv w 0 hw (by omega)]
 have:=QO_LL m.dr m.cut m.stb m.tr hw (q:=0) (by omega)
 rw[←this]
 have hz:bt1 kk ((0:Nat):Int)=0:=by
  rw[bt1_nat]
  have:=ck_le kk 0
  omega
 have hz:bt1 kk 0=0:=hz
 rw[hz]
section
variable (d:S55) (t:Nat)
end
variable {d:S55} {t:Nat}
def LN (d:S55) (i:Nat) (w:List Nat):Int:=LL d (if i<d.f1.length then(i:Int)else -1) w
theorem LN_nil {d:S55} (h:Dr d) {i:Nat} (hi:i≤d.f1.length):LN d i []=mk d (i:Int):=by
 unfold LN
 by_cases a:i<d.f1.length
 ·rw[if_pos a];rfl
 ·rw[if_neg a,LL_neg]
  have hm:=h.ml
  unfold mk
  rw[if_pos (.inr (by omega))]
theorem LN_out {d:S55} {i:Nat} (hi:¬ i<d.f1.length) (w:List Nat):LN d i w= -1:=by
 unfold LN;rw[if_neg hi,LL_neg]
theorem LN_cons {d:S55} (h:Dr d) {i b:Nat} (hi:i≤d.f1.length) (hb:b<256) (w:List Nat):LN d i (b::w)=LN d (dl d i (cls d b)) w:=by
 unfold LN
 by_cases a:i<d.f1.length
 ·rw[if_pos a]
  obtain⟨d1,r1,r2⟩:=stp_dl h a hb
  rw[d1]
  by_cases c:0≤stp d (i:Int) (b:Int)
  ·rw[if_pos c,if_pos (by omega),Int.toNat_of_nonneg c];rfl
  ·rw[if_neg c,if_neg (by omega)]
   have:stp d (i:Int) (b:Int)= -1:=by omega
   show LL d (stp d (i:Int) (b:Int)) w=_
   rw[this]
 ·rw[if_neg a,LL_neg]
  have:dl d i (cls d b)=d.f1.length:=by unfold dl;rw[if_neg (fun q=>a q.1)]
  rw[this,if_neg (by omega),LL_neg]
theorem LN_f0 {d:S55} (h:Dr d) {i j:Nat} (hi:i≤d.f1.length) (hj:j≤d.f1.length):f0 d i=f0 d j↔LN d i []=LN d j []:=by
 rw[LN_nil h hi,LN_nil h hj]
 have h1:=mk_ge h (i:Int)
 have h2:=mk_ge h (j:Int)
 unfold f0
 omega
theorem cls_onto {d:S55} (h:Dr d) {c:Nat} (hc:c<KC d):∃ b,b<256∧cls d b=c:=by
 have hk:=KC_eq h
 obtain⟨b,hb,eb⟩:=h.gap c (by omega)
 exact⟨b,hb,by unfold cls;rw[eb,Int.toNat_natCast]⟩
theorem kk_words {d:S55} (h:Dr d) {kk:Nat→ByteArray} (k:Cut d kk) (s:Stb d kk) {i j:Nat} (hi:i≤d.f1.length) (hj:j≤d.f1.length):kk i=kk j↔∀ w,Byt w→LN d i w=LN d j w:=by
 constructor
 ·intro e w
  induction w generalizing i j with
  | nil=>intro _;exact(LN_f0 h hi hj).1 (k.mark i j hi hj e)
  | cons b w ih=>
    intro hw
    have hb:=hw.hd
    have hc:=(cls_eq h hb).2
    rw[LN_cons h hi hb,LN_cons h hj hb]
    exact ih (dl_le h hc) (dl_le h hc) (s i j hi hj e _ hc) hw.tl
 ·intro hl
  refine k.bis (fun i j=>∀ w,Byt w→LN d i w=LN d j w) (fun i j hi hj hE=>⟨(LN_f0 h hi hj).2 (hE [] byt_nil),fun c hc w hw=>?_⟩) i j hi hj hl
  obtain⟨b,hb,ec⟩:=cls_onto h hc
  have:=hE (b::w) (Byt.cons hb hw)
  rw[LN_cons h hi hb,LN_cons h hj hb,ec]at this
  exact this
def KS (d:S55):Nat→Nat→ByteArray
 | 0=>kr d (f0 d)
 | r+1=>kr d (ck (KS d r))
theorem KS_cut {d:S55} (h:Dr d):∀ r,Cut d (KS d r)
 | 0=>cut0 h
 | r+1=>(cutS h (KS_cut h r)).1
theorem KS_word {d:S55} (h:Dr d):∀ (r:Nat) (i j:Nat),i≤d.f1.length→j≤d.f1.length→KS d r i≠KS d r j→∃ w,Byt w∧w.length≤r+1∧LN d i w≠LN d j w
 | 0,i,j,hi,hj,hne=>by
   by_cases e:f0 d i=f0 d j
   ·have:∃ c,c<KC d∧f0 d (dl d i c)≠f0 d (dl d j c):=by
     refine Classical.byContradiction fun q=>hne ((kr_iff h (fun i _=>f0_lt h i) hi hj).2 ⟨e,fun c hc=>Classical.byContradiction fun u=>q ⟨c,hc,u⟩⟩)
    obtain⟨c,hc,hd⟩:=this
    obtain⟨b,hb,ec⟩:=cls_onto h hc
    refine⟨[b],byt_one hb,Nat.le_refl _,?_⟩
    rw[LN_cons h hi hb,LN_cons h hj hb,ec]
    exact fun u=>hd ((LN_f0 h (dl_le h hc) (dl_le h hc)).2 u)
   ·exact⟨[],byt_nil,by simp,fun u=>e ((LN_f0 h hi hj).2 u)⟩
 | r+1,i,j,hi,hj,hne=>by
   by_cases e:KS d r i=KS d r j
   ·have:∃ c,c<KC d∧KS d r (dl d i c)≠KS d r (dl d j c):=by
     refine Classical.byContradiction fun q=>hne ((kr_iff h (ck_lt16 h (KS d r)) hi hj).2 ⟨ck_same _ e,fun c hc=>ck_same _ (Classical.byContradiction fun u=>q ⟨c,hc,u⟩)⟩)
    obtain⟨c,hc,hd⟩:=this
    obtain⟨b,hb,ec⟩:=cls_onto h hc
    obtain⟨w,w1,w2,w3⟩:=KS_word h r _ _ (dl_le h hc) (dl_le h hc) hd
    refine⟨b::w,Byt.cons hb w1,by simp;omega,?_⟩
    rw[LN_cons h hi hb,LN_cons h hj hb,ec];exact w3
   ·obtain⟨w,w1,w2,w3⟩:=KS_word h r i j hi hj e
    exact⟨w,w1,by omega,w3⟩
theorem KS_grow {d:S55} (h:Dr d):∀ r,(∀ q,q<r→nc (KS d q) (d.f1.length+1)≠nc (KS d (q+1)) (d.f1.length+1))→r+1≤nc (KS d r) (d.f1.length+1)
 | 0,_=>by
   have:=ck_lt (kk:=KS d 0) (i:=0) (N:=d.f1.length+1) (by omega)
   omega
 | r+1,hq=>by
   have ih:=KS_grow h r fun q hr=>hq q (by omega)
   have h1:=hq r (by omega)
   have h2:=nc_fine (cutS h (KS_cut h r)).2 (d.f1.length+1)
   have h2':nc (KS d r) (d.f1.length+1)≤nc (KS d (r+1)) (d.f1.length+1):=h2
   omega
theorem KS_stb {d:S55} (h:Dr d):∃ r,r≤d.f1.length∧Stb d (KS d r):=by
 have:∃ r,r≤d.f1.length∧nc (KS d r) (d.f1.length+1)=nc (KS d (r+1)) (d.f1.length+1):=by
  refine Classical.byContradiction fun q=>?_
  have:=KS_grow h (d.f1.length+1) fun r hr e=>q ⟨r,by omega,e⟩
  have:=nc_le (KS d (d.f1.length+1)) (d.f1.length+1)
  omega
 obtain⟨r,r1,r2⟩:=this
 refine⟨r,r1,fun i j hi hj e c hc=>?_⟩
 have fine:=(cutS h (KS_cut h r)).2
 have e2:=fine_same fine r2 (show i<d.f1.length+1 by omega) (show j<d.f1.length+1 by omega) e
 have:=((kr_iff h (ck_lt16 h (KS d r)) hi hj).1 e2).2 c hc
 exact ck_iff.1 this
theorem apart_short {d:S55} (h:Dr d) {i j:Nat} (hi:i≤d.f1.length) (hj:j≤d.f1.length) (hw:∃ w,Byt w∧LN d i w≠LN d j w):∃ w,Byt w∧w.length≤d.f1.length+1∧LN d i w≠LN d j w:=by
 obtain⟨r,r1,r2⟩:=KS_stb h
 obtain⟨w,w1,w2⟩:=hw
 obtain⟨u,u1,u2,u3⟩:=KS_word h r i j hi hj fun e=>w2 ((kk_words h (KS_cut h r) r2 hi hj).1 e w w1)
 exact⟨u,u1,by omega,u3⟩
theorem g_lset {α:Type} [Inhabited α] (l:List α) {i q:Nat} (x:α) (h:i<l.length):lget (lset l (i:Int) x) (q:Int)=if q=i then x else lget l (q:Int):=by
 unfold lget lset
 rw[Int.toNat_natCast,Int.toNat_natCast,List.getD,List.getD]
 by_cases e:q=i
 ·rw[if_pos e,e,List.getElem?_set_self h];rfl
 ·rw[if_neg e,List.getElem?_set_ne (fun k=>e k.symm)]
theorem g_len {α:Type} (l:List α) (i:Int) (x:α):(lset l i x).length=l.length:=by simp[lset]
def en (x:List (List Bool)) (i k:Nat):Bool:=lget (lget x (i:Int)) (k:Int)
def Told (d:S55) (r i k:Nat):Prop:=∃ w,Byt w∧w.length≤r∧LN d i w≠LN d k w
structure AJ (d:S55) (r i k:Nat) (x:List (List Bool)):Prop where
 len:x.length=d.f1.length+1
 row:∀ a,a≤d.f1.length→(lget x (a:Int)).length=d.f1.length+1
 snd:∀ a b,a≤d.f1.length→b≤d.f1.length→en x a b=true→∃ w,Byt w∧LN d a w≠LN d b w
 cmp:∀ a b,a≤d.f1.length→b≤d.f1.length→Told d r a b→en x a b=true
 don:∀ a b,a≤d.f1.length→b≤d.f1.length→(a<i∨(a=i∧b<k))→Told d (r+1) a b→en x a b=true
theorem rto_eq {d:S55} (h:Dr d) {i c:Nat} (hi:i≤d.f1.length) (hc:c<KC d):F88 5000 d (i:Int) (c:Int)=some (dl d i c:Int):=by
 have hk:=KC_eq h
 unfold F88 dl
 by_cases a:(d.f1.length:Int)≤(i:Int)
 ·rw[if_pos a,Option.bind_some,if_pos rfl,if_neg (by omega)]
 ·have hr:=h.rowk (i:=(i:Int)) (by omega) (by omega)
  have gi:0≤(i:Int)∧(i:Int)<(d.f1.length:Int):=⟨by omega,by omega⟩
  have gc:0≤(c:Int)∧(c:Int)<((lget d.f1 (i:Int)).length:Int):=⟨by omega,by omega⟩
  rw[if_neg a,if_pos gi,if_pos gc,Option.bind_some]
  by_cases b:lget (lget d.f1 (i:Int)) (c:Int)<0
  ·rw[decide_eq_true b,if_pos rfl,if_neg (by omega)]
  ·rw[decide_eq_false b,if_neg (by decide),if_pos gi,if_pos gc,if_pos ⟨by omega,by omega⟩,Int.toNat_of_nonneg (by omega)]
theorem en_set {x:List (List Bool)} {i k:Nat} (hi:i<x.length) (hk:k<(lget x (i:Int)).length) (v:Bool) (a b:Nat):en (lset x (i:Int) (lset (lget x (i:Int)) (k:Int) v)) a b=if a=i∧b=k then v else en x a b:=by
 unfold en
 rw[g_lset x _ hi]
 by_cases e:a=i
 ·rw[if_pos e,g_lset _ _ hk]
  by_cases f:b=k
  ·rw[if_pos f,if_pos ⟨e,f⟩]
  ·rw[if_neg f,if_neg fun q=>f q.2,e]
 ·rw[if_neg e,if_neg fun q=>e q.1]
theorem AJ.exit {d:S55} {r i k:Nat} {x:List (List Bool)} (j:AJ d r i k x) (hd:Told d (r+1) i k→en x i k=true):AJ d r i (k+1) x:=
 ⟨j.len,j.row,j.snd,j.cmp,fun a b ha hb q t=>by
   by_cases e:a=i∧b=k
   ·rw[e.1,e.2]at t⊢;exact hd t
   ·exact j.don a b ha hb (by omega) t⟩
theorem apart_l4 {d:S55} (h:Dr d) (rec27:List (List Bool)→Int→Option (List (List Bool))) (r:Nat) {i k:Nat} (hi:i≤d.f1.length) (hk:k≤d.f1.length) (R:Option (List (List Bool))) (hR:∀ y,AJ d r i (k+1) y→rec27 y ((k+1:Nat):Int)=R):∀ (m c fuel:Nat) (x:List (List Bool)),c+m=KC d→m<fuel→AJ d r i k x→(∀ c',c'<c→Told d r (dl d i c') (dl d k c')→en x i k=true)→
 F66_l4 5000 rec27 d (i:Int) (k:Int) fuel x (c:Int)=R:=by
 intro m
 have hn:=h.n2
 have h1:=h.n1
 have hK:=KC_eq h
 have hK2:=KC_le h
 have r0:=h.rowk (i:=0) (by omega) (by omega)
 have g0:0≤(0:Int)∧(0:Int)<(d.f1.length:Int):=⟨by omega,by omega⟩
 induction m with
 | zero=>
   intro c fuel x hc hf hj hq
   obtain⟨fu,rfl⟩:∃ fu,fuel=fu+1:=⟨fuel-1,by omega⟩
   rw[F66_l4.eq_2,if_pos g0,if_neg (by omega),Option.bind_some,if_neg (by decide)]
   unfold F66_c3
   rw[w6 (by omega) (by omega)]
   refine hR x (hj.exit ?_)
   rintro⟨w,w1,w2,w3⟩
   cases w with
   | nil=>exact hj.cmp i k hi hk ⟨[],byt_nil,by simp,w3⟩
   | cons b w=>
     have hb:=w1.hd
     rw[LN_cons h hi hb,LN_cons h hk hb]at w3
     exact hq (cls d b) (by have:=(cls_eq h hb).2;omega) ⟨w,w1.tl,by simp at w2;omega,w3⟩
 | succ m ih=>
   intro c fuel x hc hf hj hq
   obtain⟨fu,rfl⟩:∃ fu,fuel=fu+1:=⟨fuel-1,by omega⟩
   have hl:=hj.len
   have hri:=hj.row i hi
   have gi:0≤(i:Int)∧(i:Int)<(x.length:Int):=⟨by omega,by omega⟩
   have gk:0≤(k:Int)∧(k:Int)<((lget x (i:Int)).length:Int):=⟨by omega,by omega⟩
   rw[F66_l4.eq_2,if_pos g0,if_pos (by omega),if_pos gi,if_pos gk,Option.bind_some]
   cases hb:lget (lget x (i:Int)) (k:Int)with
   | true=>
     rw[if_neg (by decide)]
     unfold F66_c3
     rw[w6 (by omega) (by omega)]
     exact hR x (hj.exit fun _=>hb)
   | false=>
     have hcK:c<KC d:=by omega
     have d1:=dl_le h (i:=i) hcK
     have d2:=dl_le h (i:=k) hcK
     have hrd:=hj.row _ d1
     have hen:en x i k=false:=hb
     rw[if_pos (by decide),if_pos gi,rto_eq h hi hcK,Option.bind_some,if_pos ⟨by omega,by omega⟩,rto_eq h hk hcK,Option.bind_some,if_pos ⟨by omega,by omega⟩,if_pos gk,w6 (by omega) (by omega)]
     have es:=en_set (x:=x) (i:=i) (k:=k) (by omega) (by omega) (lget (lget x (dl d i c:Int)) (dl d k c:Int))
     have this:=ih (c+1) fu (lset x (i:Int) (lset (lget x (i:Int)) (k:Int) (lget (lget x (dl d i c:Int)) (dl d k c:Int)))) (by omega) (by omega) ⟨by rw[g_len];exact hl,fun a ha=>?_,fun a b ha hb2 he=>?_,fun a b ha hb2 ht=>?_,fun a b ha hb2 hlt ht=>?_⟩ (fun c' hc' ht=>?_)
     ·exact_mod_cast this
     ·rw[g_lset x _ (by omega)]
      by_cases e:a=i
      ·rw[if_pos e,g_len];exact hri
      ·rw[if_neg e];exact hj.row a ha
     ·rw[es]at he
      by_cases e:a=i∧b=k
      ·rw[if_pos e]at he
       obtain⟨w,w1,w2⟩:=hj.snd _ _ d1 d2 he
       obtain⟨y,y1,y2⟩:=cls_onto h hcK
       rw[e.1,e.2]
       refine⟨y::w,Byt.cons y1 w1,?_⟩
       rw[LN_cons h hi y1,LN_cons h hk y1,y2];exact w2
      ·rw[if_neg e]at he
       exact hj.snd a b ha hb2 he
     ·rw[es]
      by_cases e:a=i∧b=k
      ·rw[e.1,e.2]at ht
       have:=hj.cmp i k hi hk ht
       rw[hen]at this;cases this
      ·rw[if_neg e];exact hj.cmp a b ha hb2 ht
     ·rw[es]
      have e:¬ (a=i∧b=k):=by omega
      rw[if_neg e];exact hj.don a b ha hb2 hlt ht
     ·rw[es,if_pos ⟨rfl,rfl⟩]
      rcases Nat.lt_or_ge c' c with u|u
      ·have:=hq c' u ht
       rw[hen]at this;cases this
      ·have:c'=c:=by omega
       subst this
       exact hj.cmp _ _ d1 d2 ht
theorem apart_l5 {d:S55} (h:Dr d) (rec19:List (List Bool)→Int→Option (List (List Bool))) (r:Nat) {i:Nat} (hi:i≤d.f1.length) (R:Option (List (List Bool))) (hR:∀ y,AJ d r (i+1) 0 y→rec19 y ((i+1:Nat):Int)=R):∀ (m k fuel:Nat) (x:List (List Bool)),k+m=d.f1.length+1→m<fuel→AJ d r i k x→
 F66_l5 5000 rec19 d (i:Int) fuel x (k:Int)=R
 | 0,k,fu+1,x,hk,_,hj=>by
   have hn:=h.n2
   rw[F66_l5.eq_2,w6 (x:=(d.f1.length:Int)+1) (by omega) (by omega),if_neg (by omega)]
   unfold F66_c2
   rw[w6 (by omega) (by omega)]
   exact hR x ⟨hj.len,hj.row,hj.snd,hj.cmp,fun a b ha hb q t=>hj.don a b ha hb (by omega) t⟩
 | m+1,k,fu+1,x,hk,hf,hj=>by
   have hn:=h.n2
   have hK2:=KC_le h
   rw[F66_l5.eq_2,w6 (x:=(d.f1.length:Int)+1) (by omega) (by omega),if_pos (by omega)]
   exact apart_l4 h _ r hi (by omega) R (fun y hy=>apart_l5 h rec19 r hi R hR m (k+1) fu y (by omega) (by omega) hy) (KC d) 0 5000 x (by omega) (by omega) hj (fun c' hc'=>by omega)
theorem apart_l6 {d:S55} (h:Dr d) (rec11:List (List Bool)→Int→Option (List (List Bool))) (r:Nat) (hr:r≤10000) (R:Option (List (List Bool))) (hR:∀ y,AJ d (r+1) 0 0 y→rec11 y ((r+1:Nat):Int)=R):∀ (m i fuel:Nat) (x:List (List Bool)),i+m=d.f1.length+1→m<fuel→AJ d r i 0 x→
 F66_l6 5000 rec11 d (r:Int) fuel x (i:Int)=R
 | 0,i,fu+1,x,hi,_,hj=>by
   have hn:=h.n2
   rw[F66_l6.eq_2,w6 (x:=(d.f1.length:Int)+1) (by omega) (by omega),if_neg (by omega)]
   unfold F66_c1
   rw[w6 (by omega) (by omega)]
   exact hR x ⟨hj.len,hj.row,hj.snd,fun a b ha hb t=>hj.don a b ha hb (by omega) t,fun a b ha hb q t=>by omega⟩
 | m+1,i,fu+1,x,hi,hf,hj=>by
   have hn:=h.n2
   rw[F66_l6.eq_2,w6 (x:=(d.f1.length:Int)+1) (by omega) (by omega),if_pos (by omega)]
   exact apart_l5 h _ r (by omega) R (fun y hy=>apart_l6 h rec11 r hr R hR m (i+1) fu y (by omega) (by omega) hy) (d.f1.length+1) 0 5000 x (by omega) (by omega) hj
structure AP (d:S55) (x:List (List Bool)):Prop where
 len:x.length=d.f1.length+1
 row:∀ a,a≤d.f1.length→(lget x (a:Int)).length=d.f1.length+1
 ap:∀ a b,a≤d.f1.length→b≤d.f1.length→(en x a b=true↔∃ w,Byt w∧LN d a w≠LN d b w)
theorem apart_l7 {d:S55} (h:Dr d):∀ (m r fuel:Nat) (x:List (List Bool)),r+m=d.f1.length+1→m<fuel→AJ d r 0 0 x→∃ y,F66_l7 5000 d fuel x (r:Int)=some y∧AP d y
 | 0,r,fu+1,x,hr,_,hj=>by
   have hn:=h.n2
   refine⟨x,?_,hj.len,hj.row,fun a b ha hb=>⟨hj.snd a b ha hb,fun hw=>?_⟩⟩
   ·rw[F66_l7.eq_2,w6 (x:=(d.f1.length:Int)+1) (by omega) (by omega),if_neg (by omega)];rfl
   ·obtain⟨w,w1,w2,w3⟩:=apart_short h ha hb hw
    exact hj.cmp a b ha hb ⟨w,w1,by omega,w3⟩
 | m+1,r,fu+1,x,hr,hf,hj=>by
   have hn:=h.n2
   have ex:∃ R,F66_l6 5000 (F66_l7 5000 d fu) d (r:Int) 5000 x (0:Int)=R:=⟨_,rfl⟩
   have key:∀ y,AJ d (r+1) 0 0 y→∃ z,F66_l7 5000 d fu y ((r+1:Nat):Int)=some z∧AP d z:=fun y hy=>apart_l7 h m (r+1) fu y (by omega) (by omega) hy
   rw[F66_l7.eq_2,w6 (x:=(d.f1.length:Int)+1) (by omega) (by omega),if_pos (by omega)]
   have uniq:∀ y z,AP d y→AP d z→y=z:=by
    intro y z hy hz
    refine List.ext_getElem (by rw[hy.len,hz.len]) fun a a1 a2=>?_
    have ha:a≤d.f1.length:=by have:=hy.len;omega
    have ry:=hy.row a ha
    have rz:=hz.row a ha
    rw[lget_lt _ a a1]at ry
    rw[lget_lt _ a a2]at rz
    refine List.ext_getElem (by rw[ry,rz]) fun b b1 b2=>?_
    have hb:b≤d.f1.length:=by omega
    have ey:=hy.ap a b ha hb
    have ez:=hz.ap a b ha hb
    rw[←ez]at ey
    unfold en at ey
    rw[lget_lt _ a a1,lget_lt _ a a2,lget_lt _ b b1,lget_lt _ b b2]at ey
    exact Bool.eq_iff_iff.2 ey
   by_cases hex:∃ y,AJ d (r+1) 0 0 y
   ·obtain⟨y0,hy0⟩:=hex
    obtain⟨z0,e0,p0⟩:=key y0 hy0
    refine⟨z0,?_,p0⟩
    exact apart_l6 h _ r (by omega) (some z0) (fun y hy=>by
     obtain⟨z,e1,p1⟩:=key y hy
     rw[e1,uniq z z0 p1 p0]) (d.f1.length+1) 0 5000 x (by omega) (by omega) hj
   ·exfalso
    have:=apart_l6 h (fun _ _=>none) r (by omega) (some []) (fun y hy=>absurd ⟨y,hy⟩ hex) (d.f1.length+1) 0 5000 x (by omega) (by omega) hj
    have h2:=apart_l6 h (fun _ _=>none) r (by omega) none (fun y hy=>rfl) (d.f1.length+1) 0 5000 x (by omega) (by omega) hj
    rw[this]at h2;cases h2
theorem rmk_eq (d:S55) (k:Nat) (s:Int):F34 k d s=some (mk d s):=by
 unfold F34 mk
 by_cases a:s<0
 ·rw[if_pos a,Option.bind_some,if_pos rfl,if_pos (.inl a)]
 ·rw[if_neg a,Option.bind_some]
  by_cases b:(d.f2.length:Int)≤s
  ·rw[decide_eq_true b,if_pos rfl,if_pos (.inr b)]
  ·rw[decide_eq_false b,if_neg (by decide),if_pos ⟨by omega,by omega⟩,if_neg (by omega)]
theorem apart_l11 {d:S55} (h:Dr d) (rec54:List (List Bool)→Int→Option (List (List Bool))) (X:List (List Bool)) (hX:X.length≤2000) {i:Nat} (hi:i≤d.f1.length):∀ (m k fuel:Nat) (x:List Bool),k+m=d.f1.length+1→m<fuel→x.length=d.f1.length+1→(∀ q:Nat,q<k→lget x (q:Int)=decide (mk d (i:Int)≠mk d (q:Int)))→
 ∃ y:List Bool,y.length=d.f1.length+1∧(∀ q:Nat,q≤d.f1.length→lget y (q:Int)=decide (mk d (i:Int)≠mk d (q:Int)))∧F66_l11 5000 rec54 d X (i:Int) fuel x (k:Int)=rec54 (X++[y]) ((i+1:Nat):Int)
 | 0,k,fu+1,x,hk,_,hx,hq=>by
   have hn:=h.n2
   refine⟨x,hx,fun q q1=>hq q (by omega),?_⟩
   rw[F66_l11.eq_2,w6 (x:=(d.f1.length:Int)+1) (by omega) (by omega),if_neg (by omega)]
   unfold F66_c10 F66_c9
   rw[if_pos (by simp;omega),w6 (by omega) (by omega)];rfl
 | m+1,k,fu+1,x,hk,hf,hx,hq=>by
   have hn:=h.n2
   obtain⟨y,y1,y2,y3⟩:=apart_l11 h rec54 X hX hi m (k+1) fu (lset x (k:Int) (decide (mk d (i:Int)≠mk d (k:Int)))) (by omega) (by omega) (by rw[g_len];exact hx) (fun q q1=>by
    rw[g_lset x _ (by omega)]
    by_cases e:q=k
    ·rw[if_pos e,e]
    ·rw[if_neg e];exact hq q (by omega))
   refine⟨y,y1,y2,?_⟩
   rw[F66_l11.eq_2,w6 (x:=(d.f1.length:Int)+1) (by omega) (by omega),if_pos (by omega),rmk_eq,rmk_eq,Option.bind_some,Option.bind_some,if_pos ⟨by omega,by omega⟩,w6 (by omega) (by omega)]
   exact_mod_cast y3
theorem apart_l12 {d:S55} (h:Dr d):∀ (m i fuel:Nat) (X:List (List Bool)),i+m=d.f1.length+1→m<fuel→X.length=i→(∀ a:Nat,a<i→(lget X (a:Int)).length=d.f1.length+1∧∀ b:Nat,b≤d.f1.length→en X a b=decide (mk d (a:Int)≠mk d (b:Int)))→
 ∃ y,F66_l12 5000 d fuel X (i:Int)=some y∧AP d y
 | 0,i,fu+1,X,hi,_,hX,hq=>by
   have hn:=h.n2
   rw[F66_l12.eq_2,w6 (x:=(d.f1.length:Int)+1) (by omega) (by omega),if_neg (by omega)]
   unfold F66_c8
   refine apart_l7 h (d.f1.length+1) 0 5000 X (by omega) (by omega) ⟨by omega,fun a ha=>(hq a (by omega)).1,fun a b ha hb he=>?_,fun a b ha hb ht=>?_,fun a b ha hb q t=>by omega⟩
   ·rw[(hq a (by omega)).2 b hb,decide_eq_true_eq]at he
    exact⟨[],byt_nil,by rw[LN_nil h ha,LN_nil h hb];exact he⟩
   ·obtain⟨w,w1,w2,w3⟩:=ht
    have:w=[]:=List.eq_nil_of_length_eq_zero (by omega)
    subst this
    rw[LN_nil h ha,LN_nil h hb]at w3
    rw[(hq a (by omega)).2 b hb,decide_eq_true_eq];exact w3
 | m+1,i,fu+1,X,hi,hf,hX,hq=>by
   have hn:=h.n2
   rw[F66_l12.eq_2,w6 (x:=(d.f1.length:Int)+1) (by omega) (by omega),if_pos (by omega),if_pos ⟨by omega,by omega,by omega⟩]
   have et:((d.f1.length:Int)+1).toNat=d.f1.length+1:=by omega
   rw[et]
   obtain⟨y,y1,y2,y3⟩:=apart_l11 h (F66_l12 5000 d fu) X (by omega) (i:=i) (by omega) (d.f1.length+1) 0 5000 (List.replicate (d.f1.length+1) false) (by omega) (by omega) (by simp) (fun q q1=>by omega)
   have y3:F66_l11 5000 _ d X (i:Int) 5000 _ (0:Int)=_:=y3
   rw[y3]
   refine apart_l12 h m (i+1) fu (X++[y]) (by omega) (by omega) (by simp[hX]) fun a ha=>?_
   rcases Nat.lt_or_ge a i with u|u
   ·have e:lget (X++[y]) (a:Int)=lget X (a:Int):=by rw[lget_lt _ a (by simp;omega),lget_lt _ a (by omega),List.getElem_append_left]
    have:=hq a u
    unfold en at this⊢
    rw[e];exact this
   ·have:a=i:=by omega
    subst this
    have e:lget (X++[y]) (a:Int)=y:=by
     rw[lget_lt _ a (by simp[hX])]
     rw[List.getElem_append_right (by omega)];simp[hX]
    unfold en
    rw[e];exact⟨y1,y2⟩
theorem apart_eq {d:S55} (h:Dr d):∃ y,F66 5000 d=some y∧AP d y:=
 apart_l12 h (d.f1.length+1) 0 5000 [] (by omega) (by have:=h.n2;omega) rfl fun a ha=>by omega
end Go.Avl.T7
