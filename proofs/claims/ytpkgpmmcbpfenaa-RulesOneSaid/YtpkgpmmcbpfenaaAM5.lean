/- Parts: T7L4, T7PureRulesOne. -/
import Derived.Test.YtpkgpmmcbpfenaaAM4
import Derived.Test.YtpkgpmmcbpfenaaAF8
import Derived.Test.YtpkgpmmcbpfenaaAM1
import Derived.Test.YtpkgpmmcbpfenaaAF6
import Derived.Test.YtpkgpmmcbpfenaaAM3
import Derived.Test.YtpkgpmmcbpfenaaAF4
namespace Go.Avl.T7
open Go Go.RowKit Go.Proofs Go.Avl
set_option linter.all false
set_option maxRecDepth 10000
structure Fin (x e:S55) (kk:Nat→ByteArray) (v:Vector Int 256):Prop where
 m:Mid e kk
 cv:CV (QO e kk) v
 e:x=ORD (CM (QO e kk) v)
theorem Fin.cdr {x e:S55} {kk:Nat→ByteArray} {v:Vector Int 256} (f:Fin x e kk v):Dr (CM (QO e kk) v):=CM_Dr (QO_Dr f.m.dr kk) f.cv
theorem Fin.dr {x e:S55} {kk:Nat→ByteArray} {v:Vector Int 256} (f:Fin x e kk v):Dr x:=by rw[f.e];exact ORD_Dr f.cdr
theorem Fin.sl {x e:S55} {kk:Nat→ByteArray} {v:Vector Int 256} (f:Fin x e kk v):SLm x e:=by rw[f.e];exact(CMO f.m f.cv).sl
theorem Fin.rch {x e:S55} {kk:Nat→ByteArray} {v:Vector Int 256} (f:Fin x e kk v):RCH x:=by rw[f.e];exact ORD_RCH f.cdr
theorem CM_go {q:S55} (h:Dr q) {v:Vector Int 256} (hv:CV q v):∀ (w:List Nat) (p:Int),Byt w→ -1≤p∧p<(q.f1.length:Int)→go (CM q v) p w=go q p w
 | [],p,_,_=>rfl
 | b::w,p,hw,hp=>by
   have hb:=hw.hd
   by_cases a:p= -1
   ·rw[a,go_neg,go_neg]
   ·obtain⟨i,rfl⟩:=Int.eq_ofNat_of_zero_le (show 0≤p by omega)
    have hr:=stp_rng h (q:=(i:Int)) (c:=(b:Int)) hp (by omega) (by omega)
    rw[go,go,CM_stp h hv (by omega) hb]
    exact CM_go h hv w _ hw.tl hr
theorem Fin.go {x e:S55} {kk:Nat→ByteArray} {v:Vector Int 256} (f:Fin x e kk v) {w:List Nat} (hw:Byt w):T7.go x 0 w=pl (OL (CM (QO e kk) v)) (bw e kk w)∧(bw e kk w= -1∨bw e kk w∈OL (CM (QO e kk) v)):=by
 have hQ:=QO_Dr f.m.dr kk
 have q1:=hQ.n1
 have e1:=f.m.dr.n1
 obtain⟨z1,z2⟩:=ORD_zero f.cdr
 have hg:T7.go (CM (QO e kk) v) 0 w=bw e kk w:=by
  rw[CM_go hQ f.cv w 0 hw (by omega)]
  have:=QO_go f.m.dr f.m.cut f.m.stb f.m.tr w 0 hw (by omega)
  have hz:bt1 kk 0=0:=by
   have:bt1 kk ((0:Nat):Int)=0:=by
    rw[bt1_nat]
    have:=ck_le kk 0
    omega
   exact this
  rw[hz]at this;exact this
 obtain⟨g1,g2⟩:=ORD_go f.cdr w 0 hw (.inr z1)
 rw[z2,hg]at g1
 rw[hg]at g2
 rw[f.e]
 exact⟨g1,g2⟩
theorem Fin.pos {x e:S55} {kk:Nat→ByteArray} {v:Vector Int 256} (f:Fin x e kk v) {w:List Nat} (hw:Byt w):0≤T7.go x 0 w↔0≤T7.go e 0 w:=by
 obtain⟨g1,g2⟩:=f.go hw
 rw[g1, ←bw_pos f.m hw]
 rcases g2 with g|g
 ·rw[g,pl_neg1 f.cdr]
 ·obtain⟨j,j1,j2,j3⟩:=pl_get g
  have:=(OL_OI f.cdr).rng _ g
  omega
theorem Fin.tr {x e:S55} {kk:Nat→ByteArray} {v:Vector Int 256} (f:Fin x e kk v):TR x:=by
 intro i b hi hb hp
 have e1:=f.m.dr.n1
 obtain⟨w,w1,w2⟩:=f.rch i hi
 have hw:=w1.app (byt_one hb)
 have es:stp x (i:Int) (b:Int)=T7.go x 0 (w++[b]):=by rw[go_snoc,w2]
 rw[es]at hp⊢
 have he:=(f.pos hw).1 hp
 rcases(pos_iff f.m.dr f.m.tr hw).1 he with q|⟨u,u1,u2⟩
 ·simp at q
 ·have hx:=f.dr.n1
  have hr:=go_rng f.dr (w++[b]) 0 hw (by omega)
  refine(AL_iff f.dr hp hr.2).2 ⟨u,u1,?_⟩
  rw[←f.sl _ (hw.app u1),LL_app]at u2
  exact u2
theorem Fin.two {x e:S55} {kk:Nat→ByteArray} {v:Vector Int 256} (f:Fin x e kk v) {i k:Nat} (hi:i<x.f1.length) (hk:k<x.f1.length) (hne:i≠k):∃ w,Byt w∧LN x i w≠LN x k w:=by
 obtain⟨w,w1,w2⟩:=f.rch i hi
 obtain⟨u,u1,u2⟩:=f.rch k hk
 have hb:bw e kk w≠bw e kk u:=fun q=>by
  have g1:=(f.go w1).1
  have g2:=(f.go u1).1
  rw[w2]at g1
  rw[u2, ←q, ←g1]at g2
  omega
 have p1:=(f.pos w1).1 (by rw[w2];omega)
 have p2:=(f.pos u1).1 (by rw[u2];omega)
 have hiff:=bw_iff f.m.dr f.m.cut f.m.stb f.m.tr w1 u1
 have:∃ z,Byt z∧LL e 0 (w++z)≠LL e 0 (u++z):=Classical.byContradiction fun q=>hb (hiff.2 ⟨⟨fun _=>p2,fun _=>p1⟩,fun z hz=>Classical.byContradiction fun r=>q ⟨z,hz,r⟩⟩)
 obtain⟨z,z1,z2⟩:=this
 refine⟨z,z1,?_⟩
 rw[←f.sl _ (w1.app z1), ←f.sl _ (u1.app z1),LL_app,LL_app,w2,u2]at z2
 unfold LN
 rw[if_pos hi,if_pos hk];exact z2
theorem Fin.out {x e:S55} {kk:Nat→ByteArray} {v:Vector Int 256} (f:Fin x e kk v) {i:Nat} (hi:i<x.f1.length) (h2:1<x.f1.length):∃ w,Byt w∧LN x i w≠LN x x.f1.length w:=by
 have alive:∀ i:Nat,i<x.f1.length→0<i→∃ u,Byt u∧0≤LL x (i:Int) u:=by
  intro i hi h0
  obtain⟨w,w1,w2⟩:=f.rch i hi
  have p1:=(f.pos w1).1 (by rw[w2];omega)
  rcases(pos_iff f.m.dr f.m.tr w1).1 p1 with q|⟨u,u1,u2⟩
  ·subst q
   have:T7.go x 0 []=0:=rfl
   rw[this]at w2;omega
  ·refine⟨u,u1,?_⟩
   rw[←f.sl _ (w1.app u1),LL_app,w2]at u2;exact u2
 have:∃ u,Byt u∧0≤LL x (i:Int) u:=by
  by_cases h0:0<i
  ·exact alive i hi h0
  ·have:i=0:=by omega
   subst this
   obtain⟨u,u1,u2⟩:=alive 1 h2 (by omega)
   obtain⟨w,w1,w2⟩:=f.rch 1 h2
   refine⟨w++u,w1.app u1,?_⟩
   show 0≤LL x 0 (w++u)
   rw[LL_app,w2];exact u2
 obtain⟨u,u1,u2⟩:=this
 refine⟨u,u1,?_⟩
 have eo:=LN_out (d:=x) (i:=x.f1.length) (by omega) u
 rw[eo]
 unfold LN
 rw[if_pos hi];omega
theorem ap_l3 {x:S55} (h:Dr x) {t:List (List Bool)} (ha:AP x t) (hall:∀ i k:Nat,i<x.f1.length→k<x.f1.length→i≠k→∃ w,Byt w∧LN x i w≠LN x k w) (hout:1<x.f1.length→∀ i,i<x.f1.length→∃ w,Byt w∧LN x i w≠LN x x.f1.length w) (rec5:Int→Option Bool) {i:Nat} (hi:i<x.f1.length):∀ (m k fuel:Nat),k+m=i→m<fuel→
 F37_l3 5000 rec5 x t (i:Int) fuel (k:Int)=rec5 ((i+1:Nat):Int)
 | 0,k,fu+1,hk,_=>by
   have hn:=h.n2
   have hl:=ha.len
   have hr:=ha.row i (by omega)
   rw[F37_l3.eq_2,if_neg (by omega)]
   unfold F37_c2 F37_c1
   rw[if_pos ⟨by omega,by omega⟩,if_pos ⟨by omega,by omega⟩,w6 (by omega) (by omega)]
   by_cases q:1<x.f1.length
   ·have:=(ha.ap i x.f1.length (by omega) (Nat.le_refl _)).2 (hout q i hi)
    have e:lget (lget t (i:Int)) (x.f1.length:Int)=true:=this
    rw[e,if_neg (by decide),Option.bind_some,if_neg (by decide)];rfl
   ·cases hb:lget (lget t (i:Int)) (x.f1.length:Int)with
    | true=>rw[if_neg (by decide),Option.bind_some,if_neg (by decide)];rfl
    | false=>rw[if_pos (by decide),Option.bind_some,decide_eq_false (by omega),if_neg (by decide)];rfl
 | m+1,k,fu+1,hk,hf=>by
   have hn:=h.n2
   have hl:=ha.len
   have hr:=ha.row i (by omega)
   have ih:=ap_l3 h ha hall hout rec5 hi m (k+1) fu (by omega) (by omega)
   have:=(ha.ap i k (by omega) (by omega)).2 (hall i k hi (by omega) (by omega))
   have e:lget (lget t (i:Int)) (k:Int)=true:=this
   rw[F37_l3.eq_2,if_pos (by omega),if_pos ⟨by omega,by omega⟩,if_pos ⟨by omega,by omega⟩,e,if_neg (by decide),w6 (by omega) (by omega)]
   exact_mod_cast ih
theorem ap_l4 {x:S55} (h:Dr x) {t:List (List Bool)} (ha:AP x t) (hall:∀ i k:Nat,i<x.f1.length→k<x.f1.length→i≠k→∃ w,Byt w∧LN x i w≠LN x k w) (hout:1<x.f1.length→∀ i,i<x.f1.length→∃ w,Byt w∧LN x i w≠LN x x.f1.length w):∀ (m i fuel:Nat),i+m=x.f1.length→m<fuel→F37_l4 5000 x t fuel (i:Int)=some true
 | 0,i,fu+1,hi,_=>by rw[F37_l4.eq_2,if_neg (by omega)];rfl
 | m+1,i,fu+1,hi,hf=>by
   have hn:=h.n2
   have ih:=ap_l4 h ha hall hout m (i+1) fu (by omega) (by omega)
   have:=ap_l3 h ha hall hout (F37_l4 5000 x t fu) (i:=i) (by omega) i 0 5000 (by omega) (by omega)
   rw[F37_l4.eq_2,if_pos (by omega)]
   rw[ih]at this
   exact this
theorem apartness_eq {x:S55} (h:Dr x) (hall:∀ i k:Nat,i<x.f1.length→k<x.f1.length→i≠k→∃ w,Byt w∧LN x i w≠LN x k w) (hout:1<x.f1.length→∀ i,i<x.f1.length→∃ w,Byt w∧LN x i w≠LN x x.f1.length w):F37 5000 x=some true:=by
 obtain⟨t,t1,t2⟩:=apart_eq h
 unfold F37
 rw[t1,Option.bind_some]
 exact ap_l4 h t2 hall hout x.f1.length 0 5000 (by omega) (by have:=h.n2;omega)
theorem awake11o:F26 5000=some true:=by decide+kernel
theorem rnS_go (d:S55):∀ (w:List Nat) (x:Int),rnS d x w=go d x w
 | [],x=>rfl
 | b::w,x=>rnS_go d w (stp d x (b:Int))
theorem W_byt (s:ByteArray):Byt (W s):=fun b hb=>by
 obtain⟨x,_,rfl⟩:=List.mem_map.1 hb
 exact x.toNat_lt
theorem rn_W (d:S55) (q:Int) (s:ByteArray):∀ i:Nat,i≤s.size→rn d q s i=go d q ((W s).take i)
 | 0,_=>by rw[List.take_zero];rfl
 | i+1,hi=>by
   have ih:=rn_W d q s i (by omega)
   have hl:=W_len s
   show stp d (rn d q s i) (byteAt s i)=_
   rw[ih,List.take_succ_eq_append_getElem (show i<(W s).length by omega),go_snoc,W_get s i (by omega)]
theorem rstp_eq {d:S55} (hb:Bytes d) (k:Nat) (s:Int) {c:Int} (h0:0≤c) (h1:c<256):F60 k d s c=some (stp d s c):=by
 have hv:=hb c
 unfold F60 stp
 by_cases a:s<0
 ·rw[if_pos a,Option.bind_some,if_pos rfl,if_pos (.inl a)]
 ·rw[if_neg a]
  by_cases b:(d.f1.length:Int)≤s
  ·rw[if_pos b,Option.bind_some,if_pos rfl,if_pos (.inr (.inl b))]
  ·rw[if_neg b,if_pos ⟨h0,h1⟩,if_pos ⟨by omega,by omega⟩,Option.bind_some,w6 (by omega) (by omega)]
   by_cases e:((lget d.f1 s).length:Int)≤vget d.f0 c
   ·rw[decide_eq_true e,if_pos rfl,if_pos (.inr (.inr e))]
   ·rw[decide_eq_false e,if_neg (by decide),if_pos ⟨by omega,by omega⟩,if_pos ⟨h0,h1⟩,if_pos ⟨by omega,by omega⟩,if_neg (by omega)]
theorem rrun_l {d:S55} (h:Dr d) (s:ByteArray) (hs:s.size≤1000):∀ (m i fuel:Nat),i+m=s.size→m<fuel→F35_l1 5000 d s fuel (rn d 0 s i) (i:Int)=some (rn d 0 s s.size)
 | 0,i,fu+1,hi,_=>by
   rw[F35_l1.eq_2,if_neg (by omega),show i=s.size by omega];rfl
 | m+1,i,fu+1,hi,hf=>by
   have hu:=byteAt_u8 s (i:Int)
   have ih:=rrun_l h s hs m (i+1) fu (by omega) (by omega)
   rw[F35_l1.eq_2,if_pos (by omega),if_pos ⟨by omega,by omega⟩,w6 (by omega) (by omega),rstp_eq h.vb _ _ hu.1 (by omega),Option.bind_some,w6 (by omega) (by omega)]
   exact_mod_cast ih
theorem rrun_W {d:S55} (h:Dr d) (s:ByteArray) (hs:s.size≤1000):F35 5000 d 0 s=some (go d 0 (W s)):=by
 have:=rrun_l h s hs s.size 0 5000 (by omega) (by omega)
 rw[rn_W d 0 s s.size (Nat.le_refl _),List.take_of_length_le (by rw[W_len];exact Nat.le_refl _)]at this
 exact this
theorem bosketlaw11_RulesOne_true (a0:ByteArray) (a1:ByteArray) (h0:wf9 a0) (h1:a0.size≤140737488351232) (h2:wf9 a1) (h3:a1.size≤140737488351232):∃ k,F7 k a0 a1=some true:=by
 refine⟨5000,?_⟩
 unfold F7
 rw[awake11o,Option.bind_some,if_neg (by decide)]
 by_cases q:(40:Int)<(a0.size:Int)
 ·rw[if_pos q];rfl
 rw[if_neg q,Option.bind_some]
 by_cases q1:(20:Int)<(a1.size:Int)
 ·rw[decide_eq_true q1];rfl
 rw[decide_eq_false q1,if_neg (by decide)]
 rcases parse_eq (s:=a0) (by omega)with⟨t,ht,hl,p1,p2⟩|⟨p1,p2⟩
 ·obtain⟨d,e,k1,k2⟩:=one_lang ht (by omega)
  have hraw:F62 5000 a0=some (d,e):=by
   unfold F62
   rw[p1,Option.bind_some,if_neg (by simp),nof_ser ht (by omega),Option.bind_some,if_neg (by simp),k1,Option.bind_some]
  rcases k2 with⟨rfl,hd⟩|⟨rfl,hD,hL⟩
  ·have hone:F32 5000 a0=some ((S55.mk (Vector.replicate 256 (0:Int)) ([]:List (List Int)) ([]:List Int)),6):=by
    unfold F32
    rw[hraw,Option.bind_some,if_pos (by simp)]
   rw[hone,Option.bind_some,p2,Option.bind_some]
   rfl
  ·obtain⟨e,kk,v,m,l,hcv,eq⟩:=of_eq hD hD.right (fun e he=>he.right)
   generalize hx:ORD (CM (QO e kk) v)=x at eq
   have f:Fin x e kk v:=⟨m,hcv,hx.symm⟩
   have hdr:=f.dr
   have hap:=apartness_eq hdr (fun i k hi hk hne=>f.two hi hk hne) (fun q i hi=>f.out hi q)
   have hone:F32 5000 a0=some (x,0):=by
    unfold F32
    rw[hraw,Option.bind_some,if_neg (by simp),eq,Option.bind_some]
   have hw:=W_byt a1
   have hm:mk x (go x 0 (W a1))=mk d (rnS d 0 (W a1)):=by
    rw[rnS_go]
    exact(f.sl.trans l) (W a1) hw
   obtain⟨b,b1,b2⟩:=rxhas_eq ht (by omega) a1 (by omega)
   have b1:F36 5000 (ser t) a1=some b:=b1
   obtain⟨c1,c2⟩:=hL (W a1) hw
   rw[←hm]at c1 c2
   rw[hone,Option.bind_some,p2,Option.bind_some,if_neg (by simp),Option.bind_some,if_neg (by simp),if_neg (by simp),hdr.rright,Option.bind_some,Option.bind_some,if_neg (by decide),rrun_W hdr a1 (by omega),Option.bind_some,rmk_eq,Option.bind_some,b1,Option.bind_some]
   have fin:(F27 5000 x).bind (fun t34=>if(!t34)=true then some true else(F37 5000 x).bind fun t36=>some t36)=some true:=by
    obtain⟨s,s1,_⟩:=small_some x (Nat.le_refl 5000)
    rw[s1,Option.bind_some]
    cases s with
    | false=>rfl
    | true=>rw[if_neg (by decide),hap,Option.bind_some]
   generalize hM:mk x (go x 0 (W a1))=M at c1 c2
   have hb:(if((decide ((0:Int)≤M)) != b)=true then some true else some (decide ((0:Int)<M)))=some false:=by
    by_cases q:Lx t (W a1)
    ·rw[c1 q,b2.2 q];rfl
    ·rw[c2 q,show b=false by simpa using fun h=>q (b2.1 h)];rfl
   rw[hb,Option.bind_some,if_neg (by decide),fin,Option.bind_some]
 ·have hraw:F62 5000 a0=some ((S55.mk (Vector.replicate 256 (0:Int)) ([]:List (List Int)) ([]:List Int)),5):=by
   unfold F62
   rw[p1,Option.bind_some,if_pos (by simp)]
  have hone:F32 5000 a0=some ((S55.mk (Vector.replicate 256 (0:Int)) ([]:List (List Int)) ([]:List Int)),5):=by
   unfold F32
   rw[hraw,Option.bind_some,if_pos (by simp)]
  rw[hone,Option.bind_some,p2,Option.bind_some]
  rfl
end Go.Avl.T7
