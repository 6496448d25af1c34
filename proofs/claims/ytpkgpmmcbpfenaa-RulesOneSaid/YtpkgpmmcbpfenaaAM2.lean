/- Parts: T7M1, T7M2, T7M3, T7M4, T7P4, T7E7, T7E8, T7E9, T7EA, T7E1, T7E3, T7E4. -/
import Derived.Test.YtpkgpmmcbpfenaaAM1
import Derived.Test.YtpkgpmmcbpfenaaAF3
import Derived.Test.YtpkgpmmcbpfenaaAv3
import Derived.Test.YtpkgpmmcbpfenaaAF4
import Derived.Test.YtpkgpmmcbpfenaaAF2
import Derived.Test.YtpkgpmmcbpfenaaAF7
import Derived.Test.YtpkgpmmcbpfenaaAF1
import Derived.Test.YtpkgpmmcbpfenaaAF6
namespace Go.Avl.T7
open Go Go.RowKit Go.Proofs Go.Avl
set_option linter.all false
set_option maxRecDepth 10000
theorem w6 {x:Int} (h0: -1000000000000≤x) (h1:x≤1000000000000):w64 x=x:=w64_id (by omega) (by omega)
def ss:List S152→List (Vector Int 4)
 | []=>[]
 | e::l=>if e.f3=true then ss l else e.f2::ss l
theorem ss_len:∀ l,(ss l).length≤l.length
 | []=>Nat.le_refl _
 | e::l=>by
   have:=ss_len l
   unfold ss
   split<;>simp<;>omega
theorem ss_U:∀ {l:List S152},(∀ e∈l,U e.f2)→∀ a∈ss l,U a
 | [],_,a,h=>by cases h
 | e::l,hu,a,h=>by
   unfold ss at h
   split at h
   ·exact ss_U (fun e' h'=>hu e' (by simp[h'])) a h
   ·rcases List.mem_cons.1 h with rfl|h
    ·exact hu e (by simp)
    ·exact ss_U (fun e' h'=>hu e' (by simp[h'])) a h
theorem ss_mem:∀ {l:List S152} {e:S152},e∈l→e.f3=false→e.f2∈ss l
 | x::l,e,h,h3=>by
   unfold ss
   rcases List.mem_cons.1 h with rfl|h
   ·rw[if_neg (by rw[h3];decide)];simp
   ·split
    ·exact ss_mem h h3
    ·exact List.mem_cons_of_mem _ (ss_mem h h3)
theorem sets_l (n:S121) (hz:n.f1.length≤1000):∀ (m i fuel:Nat) (a:List (Vector Int 4)),i+m=n.f1.length→m<fuel→a.length≤i→F97_l2 5000 n fuel a (i:Int)=some (a++ss (n.f1.drop i))
 | 0,i,f+1,a,hi,_,_=>by
   rw[F97_l2.eq_2,if_neg (by omega),List.drop_of_length_le (by omega),ss,List.append_nil];rfl
 | m+1,i,f+1,a,hi,hf,ha=>by
   have hi':i<n.f1.length:=by omega
   rw[F97_l2.eq_2,if_pos (by omega),if_pos ⟨by omega,by omega⟩,lget_lt _ i hi',List.drop_eq_getElem_cons hi',ss]
   unfold F97_c1
   rw[w6 (by omega) (by omega)]
   cases b:n.f1[i].f3 with
   | true=>
     rw[if_neg (by decide),if_pos rfl]
     exact_mod_cast sets_l n hz m (i+1) f a (by omega) (by omega) (by omega)
   | false=>
     have ih:=sets_l n hz m (i+1) f (a++[n.f1[i].f2]) (by omega) (by omega) (by simp;omega)
     rw[List.append_assoc]at ih
     rw[if_pos (by decide),if_pos (by simp;omega),if_neg (by decide)];exact_mod_cast ih
theorem sets_eq (n:S121) (hz:n.f1.length≤1000):F97 5000 n=some (ss n.f1):=by
 have:=sets_l n hz n.f1.length 0 5000 [] (by omega) (by omega) (by simp)
 rw[Int.natCast_zero,List.drop_zero,List.nil_append]at this
 exact this
structure CK (n:S121) (kk:Nat→ByteArray):Prop where
 hk:∀ b:Nat,b<256→F122 5000 (ss n.f1) (b:Int)=some (kk b)
 iff:∀ b c:Nat,b<256→c<256→(kk b=kk c↔∀ x,sg (ss n.f1) b x=sg (ss n.f1) c x)
 U:∀ a∈ss n.f1,U a
 len:(ss n.f1).length≤1000
theorem CK_ex (n:S121) (hz:n.f1.length≤1000) (hu:∀ e∈n.f1,U e.f2):∃ kk,CK n kk:=by
 have hL:=ss_U hu
 have hn:(ss n.f1).length≤1000:=by have:=ss_len n.f1;omega
 let kk:Nat→ByteArray:=fun b=>(F122 5000 (ss n.f1) (b:Int)).getD ByteArray.empty
 have hkk:∀ b:Nat,b<256→∃ row,F122 5000 (ss n.f1) (b:Int)=some (strOfNums row)∧kk b=strOfNums row∧Row8 (ss n.f1) b (((ss n.f1).length+7) / 8) (ss n.f1).length row:=by
  intro b hb
  obtain⟨row,e,hr⟩:=key_eq (ss n.f1) hL hn b hb
  exact⟨row,e,by show (F122 5000 (ss n.f1) (b:Int)).getD _=_;rw[e];rfl,hr⟩
 refine⟨kk,?_,?_,hL,hn⟩
 ·intro b hb
  obtain⟨row,e,e2,_⟩:=hkk b hb
  rw[e,e2]
 ·intro b c hb hc
  obtain⟨r,_,e1,h1⟩:=hkk b hb
  obtain⟨s,_,e2,h2⟩:=hkk c hc
  rw[e1,e2]
  exact row_iff (by omega) h1 h2
theorem CK.classes {n:S121} {kk:Nat→ByteArray} (h:CK n kk):∃ v,F96 5000 (ss n.f1)=some v∧∀ c:Nat,c<256→vget v (c:Int)=(ck kk c:Int):=by
 obtain⟨v,v1,v2⟩:=bclasses_l kk h.hk 256 0 5000 (Vector.replicate 256 0) [] (by omega) (by omega) ⟨rfl,fun c hc=>by omega,fun s _=>rfl⟩ (fun c hc=>by omega)
 exact⟨v,v1,v2⟩
theorem CK.tb {n:S121} {kk:Nat→ByteArray} (h:CK n kk) {b c:Nat} (hb:b<256) (hc:c<256) (e:kk b=kk c):∀ a∈ss n.f1,tb a b=tb a c:=by
 intro a ha
 obtain⟨i,hi,rfl⟩:=List.getElem_of_mem ha
 have:=(h.iff b c hb hc).1 e i
 unfold sg at this
 rw[decide_eq_true hi,Bool.true_and,Bool.true_and,List.getD,List.getElem?_eq_getElem hi]at this
 exact this
def rps (kk:Nat→ByteArray):Nat→Nat→List Nat
 | 0,_=>[]
 | m+1,b=>if rc kk b=b then b::rps kk m (b+1)else rps kk m (b+1)
theorem rps_len (kk:Nat→ByteArray):∀ m b,(rps kk m b).length+nc kk b=nc kk (b+m)
 | 0,b=>by simp[rps]
 | m+1,b=>by
   have ih:=rps_len kk m (b+1)
   rw[show b+(m+1)=b+1+m by omega, ←ih,rps,nc]
   split<;>simp<;>omega
theorem rps_get (kk:Nat→ByteArray):∀ m b r,b≤r→r<b+m→rc kk r=r→(rps kk m b)[nc kk r-nc kk b]? =some r
 | 0,b,r,h1,h2,_=>by omega
 | m+1,b,r,h1,h2,hr=>by
   rw[rps]
   by_cases e:r=b
   ·subst e
    rw[if_pos hr,Nat.sub_self];rfl
   ·have ih:=rps_get kk m (b+1) r (by omega) (by omega) hr
    have hm:=nc_mono kk (show b+1≤r by omega)
    split
    ·next q=>
     have e2:nc kk (b+1)=nc kk b+1:=by rw[nc,if_pos q]
     rw[e2]at ih hm
     rw[show nc kk r-nc kk b=nc kk r - (nc kk b+1)+1 by omega,List.getElem?_cons_succ];exact ih
    ·next q=>
     have e2:nc kk (b+1)=nc kk b:=by rw[nc,if_neg q];rfl
     rw[e2]at ih;exact ih
theorem rps_mem (kk:Nat→ByteArray):∀ m b r,r∈rps kk m b→b≤r∧r<b+m∧rc kk r=r
 | 0,_,_,h=>by cases h
 | m+1,b,r,h=>by
   rw[rps]at h
   split at h
   ·next q=>
    rcases List.mem_cons.1 h with rfl|h
    ·exact⟨Nat.le_refl _,by omega,q⟩
    ·have:=rps_mem kk m (b+1) r h;omega
   ·have:=rps_mem kk m (b+1) r h;omega
def RP (kk:Nat→ByteArray):List Nat:=rps kk 256 0
theorem RP_get (kk:Nat→ByteArray) {b:Nat} (hb:b<256):(RP kk)[ck kk b]? =some (rc kk b):=by
 have h:=rc_spec kk b
 have:=rps_get kk 256 0 (rc kk b) (by omega) (by omega) (rc_rc kk b)
 exact this
theorem RP_len (kk:Nat→ByteArray):(RP kk).length≤256:=by
 have:=rps_len kk 256 0
 have h2:=nc_le kk (0+256)
 unfold RP;omega
theorem RP_lt (kk:Nat→ByteArray) {r:Nat} (h:r∈RP kk):r<256:=by have:=rps_mem kk 256 0 r h;omega
def vb (b:Bool):Vector Int 4:=if b=true then vset (Vector.replicate 4 (0:Int)) (0:Int) 1 else Vector.replicate 4 (0:Int)
theorem vb_U (b:Bool):U (vb b):=by
 intro j hj
 have:j=0∨j=1∨j=2∨j=3:=by omega
 cases b<;>rcases this with rfl|rfl|rfl|rfl<;>decide
theorem vb_tb (b:Bool):tb (vb b) 0=b:=by cases b<;>decide
theorem vb_get (t:List Bool) (i:Nat) (hi:i<t.length):lget (t.map vb) (i:Int)=vb (lget t (i:Int)):=by
 rw[lget_lt _ i (by simpa using hi),lget_lt _ i hi,List.getElem_map]
theorem skey_l (t:List Bool) (hz:t.length≤1000):∀ (m i fuel:Nat) (row:List Int),i+m=t.length→m<fuel→F123_l2 5000 t fuel row (i:Int)=F122_l2 5000 (t.map vb) 0 fuel row (i:Int)
 | 0,i,f+1,row,hi,_=>by
   rw[F123_l2.eq_2,F122_l2.eq_2,List.length_map,if_neg (by omega),if_neg (by omega)];rfl
 | m+1,i,f+1,row,hi,hf=>by
   have hi':i<t.length:=by omega
   have c1:(i:Int)<(t.length:Int):=by omega
   have c2:0≤(i:Int)∧(i:Int)<(t.length:Int):=⟨by omega,c1⟩
   have hh:F125 5000 (lget (t.map vb) (i:Int)) 0=some (lget t (i:Int)):=by
    have:=has_eq (vb_U (lget t (i:Int))) (x:=0) (by omega)
    rw[vb_get t i hi']
    rw[vb_tb]at this
    exact_mod_cast this
   have ih:=fun row=>skey_l t hz m (i+1) f row (by omega) (by omega)
   rw[F123_l2.eq_2,F122_l2.eq_2,List.length_map]
   simp only[if_pos c1,if_pos c2,hh,Option.bind_some]
   unfold F123_c1 F122_c1
   have e:w64 ((i:Int)+1)=((i+1:Nat):Int):=by rw[w6 (by omega) (by omega)];omega
   simp only[e,ih]
def skey (t:List Bool):ByteArray:=(F123 5000 t).getD ByteArray.empty
theorem skey_row (t:List Bool) (hz:t.length≤1000):∃ row,F123 5000 t=some (strOfNums row)∧Row8 (t.map vb) 0 ((t.length+7) / 8) t.length row:=by
 obtain⟨row,r1,r2⟩:=key_eq (t.map vb) (fun a ha=>by obtain⟨b,_,rfl⟩:=List.mem_map.1 ha;exact vb_U b) (by simpa using hz) 0 (by omega)
 refine⟨row,?_,by simpa using r2⟩
 rw[Int.natCast_zero]at r1
 rw[←r1]
 unfold F123 F122
 rw[List.length_map]
 have:=fun row=>skey_l t hz t.length 0 5000 row (by omega) (by omega)
 simp only[Int.natCast_zero]at this
 simp only[this,Int.natCast_zero]
theorem skey_eq (t:List Bool) (hz:t.length≤1000):F123 5000 t=some (skey t):=by
 obtain⟨row,r,_⟩:=skey_row t hz
 unfold skey;rw[r];rfl
theorem sg_vb (t:List Bool) (x:Nat):sg (t.map vb) 0 x=lget t (x:Int):=by
 unfold sg lget
 rw[Int.toNat_natCast,List.length_map]
 by_cases h:x<t.length
 ·rw[decide_eq_true h,Bool.true_and,List.getD,List.getElem?_map,List.getD,List.getElem?_eq_getElem h]
  exact vb_tb _
 ·rw[decide_eq_false h,Bool.false_and,List.getD,List.getElem?_eq_none (by omega)];rfl
theorem skey_inj {t u:List Bool} (hl:t.length=u.length) (hz:t.length≤1000) (h:skey t=skey u):t=u:=by
 obtain⟨r,r1,r2⟩:=skey_row t hz
 obtain⟨s,s1,s2⟩:=skey_row u (by omega)
 have e:strOfNums r=strOfNums s:=by
  have h1:skey t=strOfNums r:=by unfold skey;rw[r1];rfl
  have h2:skey u=strOfNums s:=by unfold skey;rw[s1];rfl
  rw[←h1, ←h2,h]
 apply List.ext_getElem hl
 intro i h1 h2
 have hr:bt r i=lget t (i:Int):=by rw[r2.2.2 i (by omega),decide_eq_true h1,Bool.true_and,sg_vb]
 have hs:bt s i=lget u (i:Int):=by rw[s2.2.2 i (by omega),decide_eq_true h2,Bool.true_and,sg_vb]
 have:=strOf_inj r2.2.1 s2.2.1 e
 rw[this,hs]at hr
 rw[lget_lt _ i h1,lget_lt _ i h2]at hr
 exact hr.symm
def mk1 (M:List Int) (t:List Bool) (i:Nat) (o:Int):Int:=if lget t (i:Int)=true∧i<M.length∧0≤lget M (i:Int)∧(o<0∨lget M (i:Int)<o)then lget M (i:Int)else o
def mkl (M:List Int) (t:List Bool):Nat→Nat→Int→Int
 | 0,_,o=>o
 | m+1,i,o=>mkl M t m (i+1) (mk1 M t i o)
def MK (M:List Int) (t:List Bool):Int:=mkl M t t.length 0 (-1)
theorem smark_l (x:S156) (t:List Bool) (hz:t.length≤1000):∀ (m i fuel:Nat) (o:Int),i+m=t.length→m<fuel→F124_l2 5000 x t fuel o (i:Int)=some (mkl x.f1 t m i o)
 | 0,i,f+1,o,hi,_=>by rw[F124_l2.eq_2,if_neg (by omega)];rfl
 | m+1,i,f+1,o,hi,hf=>by
   have ih:=fun o=>smark_l x t hz m (i+1) f o (by omega) (by omega)
   rw[F124_l2.eq_2,if_pos (by omega),if_pos ⟨by omega,by omega⟩]
   unfold F135 F124_c1
   rw[w6 (x:=(i:Int)+1) (by omega) (by omega),mkl]
   by_cases a:(x.f1.length:Int)≤(i:Int)
   ·have e:mk1 x.f1 t i o=o:=by unfold mk1;rw[if_neg (by rintro⟨_,q,_⟩;omega)]
    rw[if_pos a,Option.bind_some,e]
    have:(if lget t (i:Int)=true then if(0:Int)≤ -1 then if o<0 then some true else some (decide ((-1:Int)<o))else some false else some false)=some false:=by
     by_cases c:lget t (i:Int)=true
     ·rw[if_pos c,if_neg (by decide)]
     ·rw[if_neg c]
    rw[this,Option.bind_some,if_neg (by decide)];exact_mod_cast ih o
   ·rw[if_neg a,if_pos ⟨by omega,by omega⟩,Option.bind_some]
    have:(if lget t (i:Int)=true then if(0:Int)≤lget x.f1 (i:Int)then if o<0 then some true else some (decide (lget x.f1 (i:Int)<o))else some false else some false)=some (decide (lget t (i:Int)=true∧i<x.f1.length∧0≤lget x.f1 (i:Int)∧(o<0∨lget x.f1 (i:Int)<o))):=by
     by_cases c:lget t (i:Int)=true
     ·rw[if_pos c]
      by_cases d:(0:Int)≤lget x.f1 (i:Int)
      ·rw[if_pos d]
       by_cases g:o<0
       ·rw[if_pos g,decide_eq_true ⟨c,by omega,d,.inl g⟩]
       ·rw[if_neg g]
        congr 1
        rw[decide_eq_decide]
        exact⟨fun h=>⟨c,by omega,d,.inr h⟩,fun h=>h.2.2.2.resolve_left g⟩
      ·rw[if_neg d,decide_eq_false (fun h=>d h.2.2.1)]
     ·rw[if_neg c,decide_eq_false (fun h=>c h.1)]
    rw[this,Option.bind_some]
    unfold mk1
    by_cases q:lget t (i:Int)=true∧i<x.f1.length∧0≤lget x.f1 (i:Int)∧(o<0∨lget x.f1 (i:Int)<o)
    ·rw[if_pos (decide_eq_true q),if_pos q];exact_mod_cast ih _
    ·rw[if_neg (by simpa using q),if_neg q];exact_mod_cast ih _
theorem smark_eq (x:S156) (t:List Bool) (hz:t.length≤1000):F124 5000 x t=some (MK x.f1 t):=by
 have:=smark_l x t hz t.length 0 5000 (-1) (by omega) (by omega)
 rw[Int.natCast_zero]at this
 exact this
def anyb (t:List Bool):Bool:=t.any id
theorem sany_l (x:S156) (t:List Bool) (hz:t.length≤1000):∀ (m i fuel:Nat) (b:Bool),i+m=t.length→m<fuel→F98_l1 5000 x t fuel b (i:Int)=F98_c0 5000 x t (b||anyb (t.drop i))
 | 0,i,f+1,b,hi,_=>by
   rw[F98_l1.eq_2,if_neg (by omega),List.drop_of_length_le (by omega)]
   show _=F98_c0 5000 x t (b||false);rw[Bool.or_false]
 | m+1,i,f+1,b,hi,hf=>by
   have hi':i<t.length:=by omega
   have ih:=fun b=>sany_l x t hz m (i+1) f b (by omega) (by omega)
   rw[F98_l1.eq_2,if_pos (by omega),if_pos ⟨by omega,by omega⟩,lget_lt _ i hi',List.drop_eq_getElem_cons hi',w6 (by omega) (by omega)]
   show _=F98_c0 5000 x t (b||(t[i]||anyb (t.drop (i+1))))
   cases b with
   | true=>rw[if_pos rfl,Option.bind_some,Bool.true_or];have:=ih true;rw[Bool.true_or]at this;exact_mod_cast this
   | false=>rw[if_neg (by decide),Option.bind_some,Bool.false_or];exact_mod_cast ih t[i]
def ix:List (List Bool)→List Bool→Option Nat
 | [],_=>none
 | r::R,t=>if r=t then some 0 else(ix R t).map (· +1)
theorem ix_app:∀ (R:List (List Bool)) (s t:List Bool),ix (R++[s]) t=match ix R t with |some i=>some i|none=>if s=t then some R.length else none
 | [],s,t=>by
   show (if s=t then some 0 else none)=_
   rfl
 | r::R,s,t=>by
   show (if r=t then some 0 else(ix (R++[s]) t).map (· +1))=match (if r=t then some 0 else(ix R t).map (· +1))with |some i=>some i|none=>if s=t then some (R.length+1)else none
   by_cases a:r=t
   ·rw[if_pos a,if_pos a]
   ·rw[if_neg a,if_neg a,ix_app R s t]
    cases ix R t with
    | some i=>rfl
    | none=>
      show Option.map (· +1) (if s=t then some R.length else none)=if s=t then some (R.length+1)else none
      split<;>rfl
theorem ix_get:∀ {R:List (List Bool)} {t:List Bool} {i:Nat},ix R t=some i→R[i]? =some t
 | [],_,_,h=>by cases h
 | r::R,t,i,h=>by
   unfold ix at h
   by_cases a:r=t
   ·rw[if_pos a]at h;cases h;rw[a];rfl
   ·rw[if_neg a]at h
    cases e:ix R t with
    | none=>rw[e]at h;cases h
    | some j=>
      rw[e]at h
      cases h
      show (r::R)[j+1]? =some t
      rw[List.getElem?_cons_succ];exact ix_get e
def add (R:List (List Bool)) (t:List Bool):List (List Bool)×Int:=
 if anyb t=true then match ix R t with |some i=>(R,(i:Int))|none=>(R++[t],(R.length:Int))else(R, -1)
def SeenOK (N:Nat) (m:List (ByteArray×Int)) (R:List (List Bool)):Prop:=∀ t:List Bool,t.length=N→mget m (skey t)=(ix R t).map Int.ofNat
theorem state_eq {N:Nat} (hN:N≤1000) {n:S121} {M rp:List Int} {m:List (ByteArray×Int)} {R:List (List Bool)} {c:Vector Int 256} {nx:List (List Int)} {t:List Bool} (ht:t.length=N) (hm:SeenOK N m R) (hR:R.length≤100000):
 ∃ m',F98 5000 (S156.mk n M rp m R (S55.mk c nx (R.map (MK M)))) t=some ((add R t).2,S156.mk n M rp m' (add R t).1 (S55.mk c nx ((add R t).1.map (MK M))))∧SeenOK N m' (add R t).1:=by
 have:=sany_l (S156.mk n M rp m R (S55.mk c nx (R.map (MK M)))) t (by omega) t.length 0 5000 false (by omega) (by omega)
 rw[Int.natCast_zero,List.drop_zero,Bool.false_or]at this
 unfold F98
 rw[this]
 unfold F98_c0
 cases a:anyb t with
 | false=>
   have e:add R t=(R, -1):=by unfold add;rw[if_neg (by rw[a];decide)]
   rw[e,if_pos (by decide)];exact⟨m,rfl,hm⟩
 | true=>
   rw[if_neg (by decide),skey_eq t (by omega),Option.bind_some]
   have hg:=hm t ht
   show ∃ m',(if((mget m (skey t)).isSome)=true then _ else _)=_∧_
   cases e:ix R t with
   | some i=>
     have ea:add R t=(R,(i:Int)):=by unfold add;rw[if_pos a,e]
     rw[e]at hg
     rw[ea]
     refine⟨m,?_,hm⟩
     show (if((mget m (skey t)).isSome)=true then some ((mget m (skey t)).getD 0,_)else _)=_
     rw[hg];rfl
   | none=>
     have ea:add R t=(R++[t],(R.length:Int)):=by unfold add;rw[if_pos a,e]
     rw[e]at hg
     have hl:(R++[t]).length=R.length+1:=by simp
     refine⟨mput m (skey t) (R.length:Int),?_,?_⟩
     ·rw[ea,if_neg (by rw[hg];decide),if_pos (by show (R++[t]).length*24≤_;omega),smark_eq _ t (by omega),Option.bind_some,if_pos (by show (R.map (MK M)++[MK M t]).length*8≤_;simp;omega),Option.bind_some]
      show some (w64 (((R++[t]).length:Int) -1),_)=_
      rw[hl,w6 (by omega) (by omega),List.map_append]
      rw[show (((R.length+1:Nat):Int) -1)=(R.length:Int)by omega];rfl
     ·intro u hu
      rw[ea,mget_mput,ix_app]
      by_cases k:t=u
      ·subst k
       rw[if_pos rfl,e]
       show _=Option.map Int.ofNat (if t=t then some R.length else none)
       rw[if_pos rfl]
       rfl
      ·rw[if_neg (fun h=>k (skey_inj (by omega) (by omega) h)),hm u hu]
       cases ix R u with
       | some j=>rfl
       | none=>
         show _=Option.map Int.ofNat (if t=u then some R.length else none)
         rw[if_neg k]
def rowf (n:S121) (s:List Bool):List Nat→List (List Bool)→List Int→List (List Bool)×List Int
 | [],R,a=>(R,a)
 | b::bs,R,a=>rowf n s bs (add R (CL n (MV n s b))).1 (a++[(add R (CL n (MV n s b))).2])
theorem add_len (R:List (List Bool)) (t:List Bool):R.length≤(add R t).1.length∧(add R t).1.length≤R.length+1:=by
 unfold add
 split
 ·split<;>simp
 ·simp
theorem add_get {R:List (List Bool)} {t:List Bool} {i:Nat} {s:List Bool} (h:R[i]? =some s):(add R t).1[i]? =some s:=by
 have hi:=(List.getElem?_eq_some_iff.1 h).1
 unfold add
 split
 ·split
  ·exact h
  ·show (R++[t])[i]? =some s
   rw[List.getElem?_append_left hi];exact h
 ·exact h
theorem add_all {N:Nat} {R:List (List Bool)} {t:List Bool} (h:∀ r∈R,r.length=N) (ht:t.length=N):∀ r∈(add R t).1,r.length=N:=by
 unfold add
 split
 ·split
  ·exact h
  ·intro r hr
   rcases List.mem_append.1 hr with hr|hr
   ·exact h r hr
   ·rw[List.mem_singleton.1 hr];exact ht
 ·exact h
theorem st_len (n:S121) (s:List Bool) (b:Nat):(CL n (MV n s b)).length=NN n:=by rw[CL_len,MV_len]
theorem rowf_len (n:S121) (s:List Bool):∀ (bs:List Nat) (R:List (List Bool)) (a:List Int),R.length≤(rowf n s bs R a).1.length∧(rowf n s bs R a).1.length≤R.length+bs.length
 | [],R,a=>⟨Nat.le_refl _,Nat.le_refl _⟩
 | b::bs,R,a=>by
   have h:=add_len R (CL n (MV n s b))
   have ih:=rowf_len n s bs (add R (CL n (MV n s b))).1 (a++[(add R (CL n (MV n s b))).2])
   rw[rowf,List.length_cons];omega
theorem rowf_all (n:S121) (s:List Bool):∀ (bs:List Nat) (R:List (List Bool)) (a:List Int),(∀ r∈R,r.length=NN n)→∀ r∈(rowf n s bs R a).1,r.length=NN n
 | [],R,a,h=>h
 | b::bs,R,a,h=>rowf_all n s bs _ _ (add_all h (st_len n s b))
theorem rowf_get (n:S121) (s:List Bool) {i:Nat} {t:List Bool}:∀ (bs:List Nat) (R:List (List Bool)) (a:List Int),R[i]? =some t→(rowf n s bs R a).1[i]? =some t
 | [],R,a,h=>h
 | b::bs,R,a,h=>rowf_get n s bs _ _ (add_get h)
theorem lget_some {α:Type} [Inhabited α] {l:List α} {i:Nat} {x:α} (h:l[i]? =some x):lget l (i:Int)=x∧i<l.length:=by
 obtain⟨h1,h2⟩:=List.getElem?_eq_some_iff.1 h
 exact⟨by rw[lget_lt _ i h1];exact h2,h1⟩
theorem sub_l3 {n:S121} (h:Rt n) {kk:Nat→ByteArray} {M:List Int} {c:Vector Int 256} (rec57:Int→List S152→Int→Int→List Int→List Int→List (ByteArray×Int)→List (List Bool)→Vector Int 256→List (List Int)→List Int→Int→Option (S55×Int)) (i:Nat) (s:List Bool) (nx:List (List Int)) (hnx:nx.length≤100000) (hi:i≤100000) (bs:List Nat) (hbs:∀ b∈bs,b<256) (hbl:bs.length≤256):
 ∀ (m j fuel:Nat) (R:List (List Bool)) (a:List Int) (sm:List (ByteArray×Int)),j+m=bs.length→m<fuel→a.length≤j→SeenOK (NN n) sm R→R[i]? =some s→R.length+m≤100000→s.length=NN n→
 ∃ sm',F76_l3 5000 rec57 n (bs.map Int.ofNat) (i:Int) fuel n.f0 n.f1 n.f2 n.f3 M (bs.map Int.ofNat) sm R c nx (R.map (MK M)) a (j:Int)=rec57 n.f0 n.f1 n.f2 n.f3 M (bs.map Int.ofNat) sm' (rowf n s (bs.drop j) R a).1 c (nx++[(rowf n s (bs.drop j) R a).2]) ((rowf n s (bs.drop j) R a).1.map (MK M)) ((i+1:Nat):Int)∧SeenOK (NN n) sm' (rowf n s (bs.drop j) R a).1
 | 0,j,f+1,R,a,sm,hj,_,ha,hs,hg,hR,hl=>by
   rw[F76_l3.eq_2,List.length_map,if_neg (by omega),List.drop_of_length_le (by omega),rowf]
   unfold F76_c2 F76_c1
   rw[if_pos (by simp;omega),w6 (by omega) (by omega)]
   exact⟨sm,rfl,hs⟩
 | m+1,j,f+1,R,a,sm,hj,hf,ha,hs,hg,hR,hl=>by
   have hj':j<bs.length:=by omega
   obtain⟨g1,g2⟩:=lget_some hg
   have hb:=hbs _ (List.getElem_mem hj')
   have eb:lget (bs.map Int.ofNat) (j:Int)=(bs[j]:Int):=by rw[lget_lt _ j (by simpa using hj'),List.getElem_map];rfl
   have hN:NN n≤1000:=by have:=h.nn;have:=h.n1;omega
   have hlen:=add_len R (CL n (MV n s bs[j]))
   obtain⟨sm',t1,t2⟩:=state_eq (N:=NN n) hN (n:=n) (M:=M) (rp:=bs.map Int.ofNat) (c:=c) (nx:=nx) (st_len n s bs[j]) hs (by omega)
   obtain⟨sm2,u1,u2⟩:=sub_l3 h (kk:=kk) (M:=M) (c:=c) rec57 i s nx hnx hi bs hbs hbl m (j+1) f (add R (CL n (MV n s bs[j]))).1 (a++[(add R (CL n (MV n s bs[j]))).2]) sm' (by omega) (by omega) (by simp;omega) t2 (add_get hg) (by omega) hl
   refine⟨sm2,?_,?_⟩
   ·rw[F76_l3.eq_2,List.length_map,if_pos (by omega),if_pos ⟨by omega,by omega⟩,if_pos ⟨by omega,by omega⟩,g1,eb,move_eq h s (by omega) (by omega),Option.bind_some,Int.toNat_natCast,close_eq h,Option.bind_some,ini_self (MV_len _ _ _)]
    have:(S121.mk n.f0 n.f1 n.f2 n.f3)=n:=rfl
    rw[this,t1,Option.bind_some,if_pos (by simp;omega),w6 (by omega) (by omega),List.drop_eq_getElem_cons hj',rowf]
    exact_mod_cast u1
   ·rw[List.drop_eq_getElem_cons hj',rowf];exact u2
def mainF (n:S121) (bs:List Nat) (B:Nat):Nat→Nat→List (List Bool)→List (List Int)→Option (List (List Bool)×List (List Int))
 | 0,_,_,_=>none
 | f+1,i,R,N=>if i<R.length then if B<R.length then none else mainF n bs B f (i+1) (rowf n (R.getD i []) bs R []).1 (N++[(rowf n (R.getD i []) bs R []).2])else some (R,N)
theorem sub_l4 {n:S121} (h:Rt n) {kk:Nat→ByteArray} {M:List Int} {c:Vector Int 256} (bs:List Nat) (hbs:∀ b∈bs,b<256) (hbl:bs.length≤256):
 ∀ (f i:Nat) (R:List (List Bool)) (N:List (List Int)) (sm:List (ByteArray×Int)),2003≤f+i→i≤2000→SeenOK (NN n) sm R→(∀ r∈R,r.length=NN n)→R.length≤3000→N.length=i→
 F76_l4 5000 n f n.f0 n.f1 n.f2 n.f3 M (bs.map Int.ofNat) sm R c N (R.map (MK M)) (i:Int)=match mainF n bs 2000 f i R N with |some (R',N')=>some (S55.mk c N' (R'.map (MK M)),0)|none=>some (S55.mk (Vector.replicate 256 (0:Int)) [] [],6)
 | 0,i,_,_,_,h1,h2,_,_,_,_=>by omega
 | f+1,i,R,N,sm,h1,h2,hs,hr,hR,hN=>by
   rw[F76_l4.eq_2,mainF]
   by_cases a:i<R.length
   ·rw[if_pos (by omega),if_pos a]
    by_cases b:2000<R.length
    ·rw[if_pos (by omega),if_pos b]
    ·rw[if_neg (by omega),if_neg b]
     have hg:R[i]? =some (R.getD i []):=by rw[List.getD,List.getElem?_eq_getElem a];rfl
     have hl:(R.getD i []).length=NN n:=hr _ (List.mem_of_getElem? hg)
     obtain⟨sm',u1,u2⟩:=sub_l3 h (kk:=kk) (M:=M) (c:=c) (F76_l4 5000 n f) i (R.getD i []) N (by omega) (by omega) bs hbs hbl bs.length 0 5000 R [] sm (by omega) (by omega) (by simp) hs hg (by omega) hl
     rw[Int.natCast_zero,List.drop_zero]at u1
     rw[List.drop_zero]at u2
     have hrl:=rowf_len n (R.getD i []) bs R []
     rw[u1]
     exact sub_l4 h (kk:=kk) bs hbs hbl f (i+1) _ _ sm' (by omega) (by omega) u2 (rowf_all n _ bs R [] hr) (by omega) (by simp;omega)
   ·rw[if_neg (by omega),if_neg a];rfl
theorem sreps_l {n:S121} {kk:Nat→ByteArray} {v:Vector Int 256} (hv:∀ c:Nat,c<256→vget v (c:Int)=(ck kk c:Int)) (p1:List Int):∀ (m b fuel:Nat) (a:List Int),b+m=256→m<fuel→a.length=nc kk b→F76_l7 5000 n p1 v fuel a (b:Int)=F76_c5 5000 n p1 v (a++(rps kk m b).map Int.ofNat)
 | 0,b,f+1,a,hb,_,_=>by
   rw[F76_l7.eq_2,if_neg (by omega),rps,List.map_nil,List.append_nil]
 | m+1,b,f+1,a,hb,hf,ha=>by
   have hcl:=ck_le kk b
   rw[F76_l7.eq_2,if_pos (by omega),if_pos ⟨by omega,by omega⟩,hv b (by omega),w6 (x:=((ck kk b:Nat):Int)) (by omega) (by omega),rps]
   unfold F76_c6
   rw[w6 (x:=(b:Int)+1) (by omega) (by omega),w8_id (by omega) (by omega)]
   have hsp:=rc_spec kk b
   by_cases e:rc kk b=b
   ·have e2:ck kk b=nc kk b:=by unfold ck;rw[e]
    have hnl:=nc_le kk b
    have ih:=sreps_l (n:=n) hv p1 m (b+1) f (a++[(b:Int)]) (by omega) (by omega) (by rw[nc,if_pos e];simp;omega)
    rw[List.append_assoc]at ih
    rw[if_pos (by omega),if_pos (by simp;omega),if_pos e];exact_mod_cast ih
   ·have hr:rc kk b+1≤b:=by omega
    have hm:=nc_mono kk hr
    have e3:nc kk (rc kk b+1)=nc kk (rc kk b)+1:=by rw[nc,if_pos (rc_rc kk b)]
    have:ck kk b<nc kk b:=by unfold ck;omega
    rw[if_neg (by omega),if_neg e]
    exact_mod_cast sreps_l (n:=n) hv p1 m (b+1) f a (by omega) (by omega) (by rw[nc,if_neg e];omega)
def F0 (n:S121):List Bool:=CL n (lset (List.replicate (NN n) false) n.f2 true)
theorem F0_len (n:S121):(F0 n).length=NN n:=by unfold F0;rw[CL_len,lset_len,List.length_replicate]
theorem F0_any {n:S121} (h:Rt n):anyb (F0 n)=true:=by
 have hf:=h.first
 have hn:=h.nn
 have hx:(lset (List.replicate (NN n) false) n.f2 true).length=NN n:=by rw[lset_len,List.length_replicate]
 have h1:lget (F0 n) n.f2=true:=by
  refine(CL_iff h hx hf.1).2 ⟨n.f2,hf.1,?_,.refl _⟩
  rw[lget_lset _ _ _ hf.1 (by rw[List.length_replicate];omega) hf.1];simp
 have h2:n.f2.toNat<(F0 n).length:=by rw[F0_len];omega
 have h3:=lget_lt (F0 n) n.f2.toNat h2
 rw[show ((n.f2.toNat:Nat):Int)=n.f2 by omega,h1]at h3
 unfold anyb
 rw[List.any_eq_true]
 exact⟨_,List.getElem_mem h2,h3.symm⟩
theorem sof_eq {n:S121} (h:Rt n) {kk:Nat→ByteArray} (hk:CK n kk) (M:List Int):∃ v,(∀ c:Nat,c<256→vget v (c:Int)=(ck kk c:Int))∧
 F76 5000 n M=match mainF n (RP kk) 2000 5000 0 [F0 n] []with |some (R',N')=>some (S55.mk v N' (R'.map (MK M)),0)|none=>some (S55.mk (Vector.replicate 256 (0:Int)) [] [],6):=by
 obtain⟨v,v1,v2⟩:=hk.classes
 refine⟨v,v2,?_⟩
 have hf:=h.first
 have hn:=h.nn
 have hN:NN n≤1000:=by have:=h.n1;omega
 unfold F76
 rw[right_eq n h.n2,Option.bind_some,h.rt,if_neg (by decide),sets_eq n h.n2,Option.bind_some,v1,Option.bind_some]
 have:=sreps_l (n:=n) v2 M 256 0 5000 [] (by omega) (by omega) rfl
 rw[Int.natCast_zero,List.nil_append]at this
 rw[this]
 unfold F76_c5
 have e0:n.f0.toNat=NN n:=rfl
 have hx:(lset (List.replicate (NN n) false) n.f2 true).length=NN n:=by rw[lset_len,List.length_replicate]
 rw[if_pos ⟨by omega,by omega,by omega⟩,e0,if_pos ⟨by omega,by rw[List.length_replicate];omega⟩,close_eq h,Option.bind_some,ini_self hx]
 have seen0:SeenOK (NN n) [] []:=fun t ht=>rfl
 obtain⟨sm',t1,t2⟩:=state_eq (N:=NN n) hN (n:=n) (M:=M) (rp:=(rps kk 256 0).map Int.ofNat) (c:=v) (nx:=[]) (F0_len n) seen0 (by simp)
 have ea:add [] (F0 n)=([F0 n],0):=by
  unfold add
  rw[if_pos (F0_any h)];rfl
 rw[ea]at t1 t2
 show (F98 5000 (S156.mk n M ((rps kk 256 0).map Int.ofNat) [] [] (S55.mk v [] (([]:List (List Bool)).map (MK M)))) (F0 n)).bind _=_
 rw[t1,Option.bind_some]
 exact sub_l4 h (kk:=kk) (RP kk) (fun b hb=>RP_lt kk hb) (RP_len kk) 5000 0 [F0 n] [] sm' (by omega) (by omega) t2 (fun r hr=>by rw[List.mem_singleton.1 hr];exact F0_len n) (by simp) rfl
def Tab (n:S121) (bs:List Nat) (R:List (List Bool)) (i:Nat) (N:List (List Int)):Prop:=
 N.length=i∧∀ q:Nat,q<i→∃ s row,R[q]? =some s∧N[q]? =some row∧row.length=bs.length∧∀ c:Nat,c<bs.length→∃ t:Int,row[c]? =some t∧(anyb (CL n (MV n s (bs.getD c 0)))=false→t= -1)∧(anyb (CL n (MV n s (bs.getD c 0)))=true→∃ p:Nat,t=(p:Int)∧R[p]? =some (CL n (MV n s (bs.getD c 0))))
theorem add_snd (R:List (List Bool)) (t:List Bool):(anyb t=false→(add R t).2= -1)∧(anyb t=true→∃ p:Nat,(add R t).2=(p:Int)∧(add R t).1[p]? =some t):=by
 unfold add
 cases a:anyb t with
 | false=>exact⟨fun _=>rfl,fun h=>by cases h⟩
 | true=>
   refine⟨fun h=>(by cases h),fun _=>?_⟩
   rw[if_pos rfl]
   cases e:ix R t with
   | some i=>exact⟨i,rfl,ix_get e⟩
   | none=>exact⟨R.length,rfl,by show (R++[t])[R.length]? =some t;simp⟩
theorem rowf_tab (n:S121) (s:List Bool) (all:List Nat):∀ (bs:List Nat) (j:Nat) (R:List (List Bool)) (a:List Int),all.drop j=bs→a.length=j→j≤all.length→
 (∀ c:Nat,c<j→∃ t:Int,a[c]? =some t∧(anyb (CL n (MV n s (all.getD c 0)))=false→t= -1)∧(anyb (CL n (MV n s (all.getD c 0)))=true→∃ p:Nat,t=(p:Int)∧R[p]? =some (CL n (MV n s (all.getD c 0)))))→
 (rowf n s bs R a).2.length=all.length∧∀ c:Nat,c<all.length→∃ t:Int,(rowf n s bs R a).2[c]? =some t∧(anyb (CL n (MV n s (all.getD c 0)))=false→t= -1)∧(anyb (CL n (MV n s (all.getD c 0)))=true→∃ p:Nat,t=(p:Int)∧(rowf n s bs R a).1[p]? =some (CL n (MV n s (all.getD c 0))))
 | [],j,R,a,hd,ha,hj,h=>by
   have:all.length≤j:=by
    have:=congrArg List.length hd
    rw[List.length_drop]at this;simp at this;omega
   exact⟨by show a.length=_;omega,fun c hc=>h c (by omega)⟩
 | b::bs,j,R,a,hd,ha,hj,h=>by
   have hj':j<all.length:=by
    have:=congrArg List.length hd
    rw[List.length_drop]at this;simp at this;omega
   rw[List.drop_eq_getElem_cons hj']at hd
   obtain⟨e1,e2⟩:=List.cons.inj hd
   have eb:all.getD j 0=b:=by rw[List.getD,List.getElem?_eq_getElem hj', ←e1];rfl
   rw[rowf]
   refine rowf_tab n s all bs (j+1) _ _ e2 (by simp;omega) (by omega) fun c hc=>?_
   by_cases k:c=j
   ·subst k
    rw[eb]
    obtain⟨u1,u2⟩:=add_snd R (CL n (MV n s b))
    exact⟨_,by rw[←ha];simp,u1,u2⟩
   ·obtain⟨t,t1,t2,t3⟩:=h c (by omega)
    refine⟨t,by rw[List.getElem?_append_left (by omega)];exact t1,t2,fun hh=>?_⟩
    obtain⟨p,p1,p2⟩:=t3 hh
    exact⟨p,p1,add_get p2⟩
theorem mainF_tab (n:S121) (bs:List Nat) (B:Nat):∀ (f i:Nat) (R:List (List Bool)) (N:List (List Int)) (R':List (List Bool)) (N':List (List Int)),i≤R.length→Tab n bs R i N→(∀ r∈R,r.length=NN n)→R.length≤B+bs.length→mainF n bs B f i R N=some (R',N')→Tab n bs R' R'.length N'∧(∀ x:Nat,∀ r,R[x]? =some r→R'[x]? =some r)∧(∀ r∈R',r.length=NN n)∧R'.length≤B+bs.length
 | 0,_,_,_,_,_,_,_,_,_,h=>by cases h
 | f+1,i,R,N,R',N',hi,ht,hr,hB,h=>by
   rw[mainF]at h
   split at h
   ·next a=>
    split at h
    ·cases h
    ·next b=>
     have hg:R[i]? =some (R.getD i []):=by rw[List.getD,List.getElem?_eq_getElem a];rfl
     have hrl:=rowf_len n (R.getD i []) bs R []
     obtain⟨w1,w2⟩:=rowf_tab n (R.getD i []) bs bs 0 R [] rfl rfl (by omega) (fun c hc=>by omega)
     have hgr:=fun {x t}=>rowf_get (i:=x) (t:=t) n (R.getD i []) bs R []
     have nt:Tab n bs (rowf n (R.getD i []) bs R []).1 (i+1) (N++[(rowf n (R.getD i []) bs R []).2]):=by
      refine⟨by simp;exact ht.1,fun q hq=>?_⟩
      by_cases k:q=i
      ·subst k
       exact⟨_,_,hgr hg,by rw[←ht.1];simp,w1,w2⟩
      ·obtain⟨s,row,r1,r2,r3,r4⟩:=ht.2 q (by omega)
       refine⟨s,row,hgr r1,by rw[List.getElem?_append_left (by have:=ht.1;omega)];exact r2,r3,fun c hc=>?_⟩
       obtain⟨t,t1,t2,t3⟩:=r4 c hc
       refine⟨t,t1,t2,fun hh=>?_⟩
       obtain⟨p,p1,p2⟩:=t3 hh
       exact⟨p,p1,hgr p2⟩
     obtain⟨k1,k2,k3,k4⟩:=mainF_tab n bs B f (i+1) _ _ R' N' (by omega) nt (rowf_all n _ bs R [] hr) (by omega) h
     exact⟨k1,fun x r hx=>k2 x r (hgr hx),k3,k4⟩
   ·next a=>
    cases h
    obtain rfl:i=R.length:=by omega
    exact⟨ht,fun x r hx=>hx,hr,hB⟩
def tks (x:Int):Int:=if x=0∨x=1 then 0 else if x=4∨x=5∨x=6 then 1 else if x=2∨x=3 then 2 else -1
theorem takes_eq' (x:Int):F118 5000 x=some (tks x):=takes_eq x
theorem tks_rng (x:Int): -1≤tks x∧tks x≤2:=by unfold tks;split<;>(try split)<;>(try split)<;>omega
abbrev MkM (q:Nat) (E:List S152) (x y:Int):S146:=S146.mk (S121.mk (q:Int) E x y)
theorem free_eq {q:Nat} {E:List S152} {x y a b:Int} (h:E.length≤100000):F121 5000 (MkM q E x y) a b=some (MkM q (E++[S152.mk a b (Vector.replicate 4 0) true]) x y):=by
 unfold F121
 rw[if_pos (by simp;omega)]
theorem fresh_eq {q:Nat} {E:List S152} {x y:Int} (h:q≤100000):F120 5000 (MkM q E x y)=some (S150.mk (q:Int) ((q+1:Nat):Int),MkM (q+2) E x y):=by
 have st:∀ q:Nat,q≤200000→F134 5000 (MkM q E x y)=some ((q:Int),MkM (q+1) E x y):=by
  intro q hq
  unfold F134
  show some (w64 (w64 ((q:Int)+1) -1),S146.mk (S121.mk (w64 ((q:Int)+1)) E x y))=_
  rw[w6t (x:=(q:Int)+1) (by omega) (by omega),w6t (by omega) (by omega),show (q:Int)+1-1=(q:Int)by omega];rfl
 unfold F120
 show (F134 5000 (MkM q E x y)).bind _=_
 rw[st q (by omega),Option.bind_some]
 show (F134 5000 (MkM (q+1) E x y)).bind _=_
 rw[st (q+1) (by omega),Option.bind_some]
def EOK (q:Nat) (E:List S152):Prop:=∀ e∈E,0≤e.f0∧e.f0<(q:Int)∧0≤e.f1∧e.f1<(q:Int)∧U e.f2
def SOK (q:Nat) (st:List S150):Prop:=∀ e∈st,0≤e.f0∧e.f0<(q:Int)∧0≤e.f1∧e.f1<(q:Int)
theorem EOK.up {q q':Nat} {E:List S152} (h:EOK q E) (hq:q≤q'):EOK q' E:=fun e he=>by
 obtain⟨a,b,c,d,u⟩:=h e he
 exact⟨a,by omega,c,by omega,u⟩
theorem EOK.add {q:Nat} {E:List S152} (h:EOK q E) {a b:Int} {v:Vector Int 4} {f:Bool} (ha:0≤a∧a<(q:Int)) (hb:0≤b∧b<(q:Int)) (hv:U v):EOK q (E++[S152.mk a b v f]):=fun e he=>by
 rcases List.mem_append.1 he with he|he
 ·exact h e he
 ·rw[List.mem_singleton.1 he];exact⟨ha.1,ha.2,hb.1,hb.2,hv⟩
def fe (a b:Int):S152:=S152.mk a b (Vector.replicate 4 (0:Int)) true
def NE (q:Nat) (p:S131) (st:List S150):List S152:=
 let A:=lget st ((st.length-2:Nat):Int)
 let B:=lget st ((st.length-1:Nat):Int)
 if p.f0=0 then [fe (q:Int) ((q+1:Nat):Int)]
 else if p.f0=1 then [S152.mk (q:Int) ((q+1:Nat):Int) p.f1 false]
 else if p.f0=2 then [fe (q:Int) A.f0,fe A.f1 B.f0,fe B.f1 ((q+1:Nat):Int)]
 else if p.f0=3 then [fe (q:Int) A.f0,fe A.f1 ((q+1:Nat):Int),fe (q:Int) B.f0,fe B.f1 ((q+1:Nat):Int)]
 else [fe (q:Int) B.f0,fe B.f1 ((q+1:Nat):Int)]++(if p.f0≠6 then [fe B.f1 B.f0]else [])++(if p.f0≠5 then [fe (q:Int) ((q+1:Nat):Int)]else [])
theorem add_c0' {q:Nat} {x y:Int} {p:S131} {st:List S150} {E':List S152} (t5:S150×S146) (h5:t5.1=S150.mk (q:Int) ((q+1:Nat):Int)) (hk:0≤tks p.f0∧(tks p.f0).toNat≤st.length) (hs:st.length≤10000):
 F94_c0 5000 p st t5 ((q+2:Nat):Int) E' x y=some (st.take (st.length - (tks p.f0).toNat)++[S150.mk (q:Int) ((q+1:Nat):Int)],MkM (q+2) E' x y):=by
 unfold F94_c0
 have ew:w64 ((st.length:Int) -tks p.f0)=((st.length - (tks p.f0).toNat:Nat):Int):=by
  rw[w6t (by omega) (by omega)];omega
 rw[takes_eq',Option.bind_some,ew,if_pos ⟨by omega,by omega⟩,Int.toNat_natCast,h5,if_pos (by simp;omega)]
theorem add_eq {q:Nat} {x y:Int} {p:S131} {st:List S150} {E:List S152} (hq:q≤10000) (hk:0≤tks p.f0∧(tks p.f0).toNat≤st.length) (hs:st.length≤10000) (hz:E.length≤10000):
 F94 5000 (MkM q E x y) p st=some (st.take (st.length - (tks p.f0).toNat)++[S150.mk (q:Int) ((q+1:Nat):Int)],MkM (q+2) (E++NE q p st) x y):=by
 generalize hR:some (st.take (st.length - (tks p.f0).toNat)++[S150.mk (q:Int) ((q+1:Nat):Int)],MkM (q+2) (E++NE q p st) x y)=R
 unfold F94
 show (F120 5000 (MkM q E x y)).bind _=_
 rw[fresh_eq (by omega),Option.bind_some]
 generalize ht5:(S150.mk (q:Int) ((q+1:Nat):Int),MkM (q+2) E x y)=t5
 have e51:t5.1=S150.mk (q:Int) ((q+1:Nat):Int):=by rw[←ht5]
 have e52:t5.2=MkM (q+2) E x y:=by rw[←ht5]
 have fin:∀ E',E'=E++NE q p st→F94_c0 5000 p st t5 ((q+2:Nat):Int) E' x y=R:=fun E' h=>by
  rw[add_c0' t5 e51 hk hs,h,hR]
 rw[e52,e51]
 by_cases k0:p.f0=0
 ·rw[if_pos k0]
  show (F121 5000 (MkM (q+2) E x y) _ _).bind _=_
  rw[free_eq (by omega),Option.bind_some]
  exact fin _ (by unfold NE;rw[if_pos k0];rfl)
 ·rw[if_neg k0]
  by_cases k1:p.f0=1
  ·rw[if_pos k1]
   show (if(E++[S152.mk (q:Int) ((q+1:Nat):Int) p.f1 false]).length*56≤140737488355328 then _ else _)=_
   rw[if_pos (by simp;omega)]
   exact fin _ (by unfold NE;rw[if_neg k0,if_pos k1])
  ·rw[if_neg k1]
   by_cases k2:p.f0=2
   ·have et:tks p.f0=2:=by rw[k2];rfl
    have hl2:2≤st.length:=by rw[et]at hk;exact hk.2
    have w1:w64 ((st.length:Int) -2)=((st.length-2:Nat):Int):=by rw[w6t (by omega) (by omega)];omega
    have w2:w64 ((st.length:Int) -1)=((st.length-1:Nat):Int):=by rw[w6t (by omega) (by omega)];omega
    rw[if_pos k2,w1,w2,if_pos ⟨by omega,by omega⟩,if_pos ⟨by omega,by omega⟩]
    show (F121 5000 (MkM (q+2) E x y) _ _).bind _=_
    rw[free_eq (by omega),Option.bind_some]
    show (F121 5000 (MkM (q+2) _ x y) _ _).bind _=_
    rw[free_eq (by simp;omega),Option.bind_some]
    show (F121 5000 (MkM (q+2) _ x y) _ _).bind _=_
    rw[free_eq (by simp;omega),Option.bind_some]
    exact fin _ (by unfold NE;rw[if_neg k0,if_neg k1,if_pos k2];simp[fe])
   ·rw[if_neg k2]
    by_cases k3:p.f0=3
    ·have et:tks p.f0=2:=by rw[k3];rfl
     have hl2:2≤st.length:=by rw[et]at hk;exact hk.2
     have w1:w64 ((st.length:Int) -2)=((st.length-2:Nat):Int):=by rw[w6t (by omega) (by omega)];omega
     have en:(((st.length - (((st.length-2:Nat):Int)).toNat:Nat):Nat):Int)=2:=by rw[Int.toNat_natCast];omega
     have i1:((st.length-2:Nat):Int)+0=((st.length-2:Nat):Int):=by omega
     have i2:((st.length-2:Nat):Int)+1=((st.length-1:Nat):Int):=by omega
     have u1:w64 ((0:Int)+1)=1:=w6t (by omega) (by omega)
     have u2:w64 ((1:Int)+1)=2:=w6t (by omega) (by omega)
     rw[if_pos k3,w1,if_pos ⟨by omega,by omega⟩]
     show F94_l1 5000 p st t5 (4997+1+1+1) ((q+2:Nat):Int) E x y (0:Int)=_
     rw[F94_l1.eq_2,w1,en,if_pos (by decide),if_pos (by decide),i1,e51]
     show (F121 5000 (MkM (q+2) E x y) _ _).bind _=_
     rw[free_eq (by omega),Option.bind_some]
     show (F121 5000 (MkM (q+2) _ x y) _ _).bind _=_
     rw[free_eq (by simp;omega),Option.bind_some,u1]
     show F94_l1 5000 p st t5 (4997+1+1) ((q+2:Nat):Int) _ x y (1:Int)=_
     rw[F94_l1.eq_2,w1,en,if_pos (by decide),if_pos (by decide),i2,e51]
     show (F121 5000 (MkM (q+2) _ x y) _ _).bind _=_
     rw[free_eq (by simp;omega),Option.bind_some]
     show (F121 5000 (MkM (q+2) _ x y) _ _).bind _=_
     rw[free_eq (by simp;omega),Option.bind_some,u2]
     show F94_l1 5000 p st t5 (4997+1) ((q+2:Nat):Int) _ x y (2:Int)=_
     rw[F94_l1.eq_2,w1,en,if_neg (by decide)]
     exact fin _ (by unfold NE;rw[if_neg k0,if_neg k1,if_neg k2,if_pos k3];simp[fe])
    ·have et:1≤tks p.f0:=by
      have:=hk.1
      unfold tks at this⊢
      rw[if_neg (by omega)]at this⊢
      split
      ·omega
      ·rw[if_neg (by assumption),if_neg (by omega)]at this;omega
     have w2:w64 ((st.length:Int) -1)=((st.length-1:Nat):Int):=by rw[w6t (by omega) (by omega)];omega
     rw[if_neg k3,w2,if_pos ⟨by omega,by omega⟩]
     show (F121 5000 (MkM (q+2) E x y) _ _).bind _=_
     rw[free_eq (by omega),Option.bind_some]
     show (F121 5000 (MkM (q+2) _ x y) _ _).bind _=_
     rw[free_eq (by simp;omega),Option.bind_some]
     have fin2:∀ E2:List S152,E2.length≤E.length+3→E2++(if p.f0≠5 then [fe (q:Int) ((q+1:Nat):Int)]else [])=E++NE q p st→F94_c2 5000 p st t5 ((q+2:Nat):Int) E2 x y=R:=by
      intro E2 l2 o2
      unfold F94_c2
      rw[e51]
      by_cases k5:p.f0≠5
      ·rw[if_pos k5]at o2⊢
       show (F121 5000 (MkM (q+2) E2 x y) _ _).bind _=_
       rw[free_eq (by omega),Option.bind_some]
       exact fin _ o2
      ·rw[if_neg k5]at o2⊢
       rw[List.append_nil]at o2
       exact fin _ o2
     by_cases k6:p.f0≠6
     ·rw[if_pos k6]
      show (F121 5000 (MkM (q+2) _ x y) _ _).bind _=_
      rw[free_eq (by simp;omega),Option.bind_some]
      exact fin2 _ (by simp) (by unfold NE;rw[if_neg k0,if_neg k1,if_neg k2,if_neg k3,if_pos k6];simp[fe])
     ·rw[if_neg k6]
      exact fin2 _ (by simp) (by unfold NE;rw[if_neg k0,if_neg k1,if_neg k2,if_neg k3,if_neg k6];simp[fe])
def gin (t:Rx) (q:Nat):Nat:=q+2*((ser t).length-1)
def qb (a:Rx) (q:Nat):Nat:=q+2*(ser a).length
def gI (t:Rx) (q:Nat):Int:=(gin t q:Int)
def gO (t:Rx) (q:Nat):Int:=((gin t q+1:Nat):Int)
def gr:Rx→Nat→List S152
 | .non,q=>[fe (gI .non q) (gO .non q)]
 | .one s,q=>[S152.mk (gI (.one s) q) (gO (.one s) q) s false]
 | .cat a b,q=>gr a q++gr b (qb a q)++[fe (gI (.cat a b) q) (gI a q),fe (gO a q) (gI b (qb a q)),fe (gO b (qb a q)) (gO (.cat a b) q)]
 | .alt a b,q=>gr a q++gr b (qb a q)++[fe (gI (.alt a b) q) (gI a q),fe (gO a q) (gO (.alt a b) q),fe (gI (.alt a b) q) (gI b (qb a q)),fe (gO b (qb a q)) (gO (.alt a b) q)]
 | .un k a,q=>gr a q++([fe (gI (.un k a) q) (gI a q),fe (gO a q) (gO (.un k a) q)]++(if k≠6 then [fe (gO a q) (gI a q)]else [])++(if k≠5 then [fe (gI (.un k a) q) (gO (.un k a) q)]else []))
def gP (t:Rx) (q:Nat):S150:=S150.mk (gI t q) (gO t q)
theorem gr_len:∀ (t:Rx) (q:Nat),(gr t q).length≤4*(ser t).length
 | .non,q=>by simp[gr,ser]
 | .one s,q=>by simp[gr,ser]
 | .cat a b,q=>by have:=gr_len a q;have:=gr_len b (qb a q);simp[gr,ser];omega
 | .alt a b,q=>by have:=gr_len a q;have:=gr_len b (qb a q);simp[gr,ser];omega
 | .un k a,q=>by
   have:=gr_len a q
   have h1:(if k≠6 then [fe (gO a q) (gI a q)]else []).length≤1:=by split<;>simp
   have h2:(if k≠5 then [fe (gI (.un k a) q) (gO (.un k a) q)]else []).length≤1:=by split<;>simp
   simp only[gr,ser,List.length_append,List.length_cons,List.length_nil];omega
theorem of1 {l pre post:List S131} {p:S131} (e:l=pre++p::post) (hl:l.length≤400) {x y:Int} {st:List S150} {E:List S152} (hk:0≤tks p.f0∧(tks p.f0).toNat≤st.length) (hs:st.length≤10000) (hz:E.length≤10000) (f:Nat):
 F74_l1 5000 l (f+1) ((2*pre.length:Nat):Int) E x y st (pre.length:Int)=F74_l1 5000 l f ((2*(pre.length+1):Nat):Int) (E++NE (2*pre.length) p st) x y (st.take (st.length - (tks p.f0).toNat)++[S150.mk ((2*pre.length:Nat):Int) ((2*pre.length+1:Nat):Int)]) ((pre.length+1:Nat):Int):=by
 have hlt:pre.length<l.length:=by rw[e];simp
 have hg:lget l (pre.length:Int)=p:=by rw[e];exact pget_at pre p post
 rw[F74_l1.eq_2,if_pos (by omega),if_pos ⟨by omega,by omega⟩,hg]
 show (F94 5000 (MkM (2*pre.length) E x y) p st).bind _=_
 rw[add_eq (by omega) hk hs hz,Option.bind_some,w6t (by omega) (by omega)]
 rfl
theorem chk1 {l pre post:List S131} {p:S131} (e:l=pre++p::post) (hl:l.length≤400) {n:Nat} (hn:n≤1000) (hk:0≤tks p.f0∧(tks p.f0).toNat≤n) (hv:p.f0=1↔p.f1≠VZ) (f:Nat):
 F93_l1 5000 l (f+1) (n:Int) (pre.length:Int)=F93_l1 5000 l f ((n+1 - (tks p.f0).toNat:Nat):Int) ((pre.length+1:Nat):Int):=by
 have hlt:pre.length<l.length:=by rw[e];simp
 have hg:lget l (pre.length:Int)=p:=by rw[e];exact pget_at pre p post
 have hr:=tks_rng p.f0
 have e0:F119 5000 p.f1=some (decide (p.f1=VZ)):=rfl
 have e1:(decide (p.f0=1)==decide (p.f1=VZ))=false:=by
  by_cases h:p.f0=1
  ·rw[decide_eq_true h,decide_eq_false (hv.1 h)];rfl
  ·rw[decide_eq_false h,decide_eq_true (Classical.not_not.1 fun k=>h (hv.2 k))];rfl
 rw[F93_l1.eq_2,if_pos (by omega),if_pos ⟨by omega,by omega⟩,hg,takes_eq',Option.bind_some,if_neg (by omega),if_neg (by omega),e0,Option.bind_some,e1,Option.bind_some,if_neg (by simp),w6t (x:=(1:Int) -tks p.f0) (by omega) (by omega),w6t (by omega) (by omega),w6t (by omega) (by omega)]
 have e2:(n:Int)+(1-tks p.f0)=((n+1 - (tks p.f0).toNat:Nat):Int):=by omega
 rw[e2];rfl
theorem tks_un {k:Int} (h:4≤k) (h2:k≤6):tks k=1:=by unfold tks;rw[if_neg (by omega),if_pos (by omega)]
theorem lg1 (s0:List S150) (A:S150):lget (s0++[A]) (((s0++[A]).length-1:Nat):Int)=A:=by
 rw[lget_lt _ _ (by simp)];simp
theorem lg2 (s0:List S150) (A B:S150):lget (s0++[A]++[B]) (((s0++[A]++[B]).length-2:Nat):Int)=A:=by
 rw[lget_lt _ _ (by simp)];simp
def TL (l:List S131) (x y:Int) (t:Rx):Prop:=∀ (pre post:List S131),l=pre++ser t++post→
 (∀ (f n:Nat),n≤pre.length→F93_l1 5000 l (f+(ser t).length) (n:Int) (pre.length:Int)=F93_l1 5000 l f ((n+1:Nat):Int) ((pre.length+(ser t).length:Nat):Int))∧
 (∀ (f:Nat) (E:List S152) (st:List S150),st.length≤pre.length→E.length≤4*pre.length→
   F74_l1 5000 l (f+(ser t).length) ((2*pre.length:Nat):Int) E x y st (pre.length:Int)=F74_l1 5000 l f ((2*(pre.length+(ser t).length):Nat):Int) (E++gr t (2*pre.length)) x y (st++[gP t (2*pre.length)]) ((pre.length+(ser t).length:Nat):Int))
theorem TL.leaf {l:List S131} (hl:l.length≤400) {x y:Int} {t:Rx} {p:S131} (hs:ser t=[p]) (hk:tks p.f0=0) (hv:p.f0=1↔p.f1≠VZ) (hg:∀ q s0,gr t q=NE q p s0):TL l x y t:=by
 intro pre post e
 have e':l=pre++p::post:=by rw[e,hs];simp
 have hp:pre.length<l.length:=by rw[e'];simp
 refine⟨fun f n hn=>?_,fun f E st h1 hE=>?_⟩
 ·have:=chk1 e' hl (n:=n) (by omega) (by rw[hk];simp) hv f
  rw[hs]
  rw[hk]at this
  exact this
 ·have:=of1 (x:=x) (y:=y) e' hl (st:=st) (E:=E) (by rw[hk];simp) (by omega) (by omega) f
  rw[hs]
  rw[hk,show st.length - (0:Int).toNat=st.length from rfl,List.take_length, ←hg]at this
  have g:gP t (2*pre.length)=S150.mk ((2*pre.length:Nat):Int) ((2*pre.length+1:Nat):Int):=by
   unfold gP gI gO gin;rw[hs];rfl
  rw[g]
  exact this
theorem TL.two {l:List S131} (hl:l.length≤400) {x y:Int} {a b t:Rx} {k:Int} (hk:tks k=2) (hk1:k≠1) (hs:ser t=ser a++ser b++[S131.mk k VZ]) (hg:∀ q s0,gr t q=gr a q++gr b (qb a q)++NE (gin t q) (S131.mk k VZ) (s0++[gP a q]++[gP b (qb a q)])) (ha:TL l x y a) (hb:TL l x y b):TL l x y t:=by
 intro pre post e
 have ea:l=pre++ser a++(ser b++[S131.mk k VZ]++post):=by rw[e,hs];simp
 have eb:l=(pre++ser a)++ser b++([S131.mk k VZ]++post):=by rw[e,hs];simp
 have ep:l=(pre++ser a++ser b)++S131.mk k VZ::post:=by rw[e,hs];simp
 have la:(pre++ser a).length=pre.length+(ser a).length:=by simp
 have lb:(pre++ser a++ser b).length=pre.length+(ser a).length+(ser b).length:=by simp;omega
 have lt:(ser t).length=(ser a).length+(ser b).length+1:=by rw[hs];simp;omega
 have hp:(pre++ser a++ser b).length<l.length:=by rw[ep];simp
 have pa:=ser_pos a
 have pb:=ser_pos b
 refine⟨fun f n hn=>?_,fun f E st h1 hE=>?_⟩
 ·have q1:=(ha pre _ ea).1 (f+1+(ser b).length) n hn
  have q2:=(hb (pre++ser a) _ eb).1 (f+1) (n+1) (by omega)
  have q3:=chk1 ep hl (n:=n+1+1) (by omega) (by show 0≤tks k∧(tks k).toNat≤_;rw[hk];exact⟨by decide,by show 2≤n+1+1;omega⟩) (by simp[hk1]) f
  rw[la]at q2
  rw[lb]at q3
  rw[lt,show f+((ser a).length+(ser b).length+1)=f+1+(ser b).length+(ser a).length by omega,q1,q2,q3]
  show F93_l1 5000 l f ((n+1+1+1 - (tks k).toNat:Nat):Int) _=_
  rw[hk,show n+1+1+1 - (2:Int).toNat=n+1 from by show n+1+1+1-2=n+1;omega,show pre.length+((ser a).length+(ser b).length+1)=pre.length+(ser a).length+(ser b).length+1 by omega]
 ·have ga:=gr_len a (2*pre.length)
  have gb:=gr_len b (qb a (2*pre.length))
  have q1:=(ha pre _ ea).2 (f+1+(ser b).length) E st h1 hE
  have q2:=(hb (pre++ser a) _ eb).2 (f+1) (E++gr a (2*pre.length)) (st++[gP a (2*pre.length)]) (by simp;omega) (by simp;omega)
  rw[la,show 2*(pre.length+(ser a).length)=qb a (2*pre.length)by unfold qb;omega]at q2
  have q3:=of1 (x:=x) (y:=y) ep hl (st:=st++[gP a (2*pre.length)]++[gP b (qb a (2*pre.length))]) (E:=E++gr a (2*pre.length)++gr b (qb a (2*pre.length))) (by show 0≤tks k∧(tks k).toNat≤_;rw[hk];exact⟨by decide,by simp⟩) (by simp;omega) (by simp;omega) f
  rw[lb]at q3
  have gq:gin t (2*pre.length)=2*(pre.length+(ser a).length+(ser b).length):=by unfold gin;rw[lt];omega
  rw[lt,show f+((ser a).length+(ser b).length+1)=f+1+(ser b).length+(ser a).length by omega,q1,show 2*(pre.length+(ser a).length)=qb a (2*pre.length)by unfold qb;omega,q2,q3,hg _ st,gq]
  have tk:(st++[gP a (2*pre.length)]++[gP b (qb a (2*pre.length))]).take ((st++[gP a (2*pre.length)]++[gP b (qb a (2*pre.length))]).length - (tks (S131.mk k VZ).f0).toNat)=st:=by
   show (st++[gP a (2*pre.length)]++[gP b (qb a (2*pre.length))]).take ((st++[gP a (2*pre.length)]++[gP b (qb a (2*pre.length))]).length - (tks k).toNat)=st
   rw[hk,List.append_assoc,show (st++([gP a (2*pre.length)]++[gP b (qb a (2*pre.length))])).length - (2:Int).toNat=st.length by simp]
   simp
  have g:gP t (2*pre.length)=S150.mk ((2*(pre.length+(ser a).length+(ser b).length):Nat):Int) ((2*(pre.length+(ser a).length+(ser b).length)+1:Nat):Int):=by
   unfold gP gI gO;rw[gq]
  rw[tk,g,show pre.length+((ser a).length+(ser b).length+1)=pre.length+(ser a).length+(ser b).length+1 by omega]
  simp only[List.append_assoc]
theorem TL.un {l:List S131} (hl:l.length≤400) {x y:Int} {a:Rx} {k:Int} (h4:4≤k) (h6:k≤6) (ha:TL l x y a):TL l x y (.un k a):=by
 intro pre post e
 have hk:=tks_un h4 h6
 have ea:l=pre++ser a++([S131.mk k VZ]++post):=by rw[e];simp[ser]
 have ep:l=(pre++ser a)++S131.mk k VZ::post:=by rw[e];simp[ser]
 have la:(pre++ser a).length=pre.length+(ser a).length:=by simp
 have lt:(ser (.un k a)).length=(ser a).length+1:=by simp[ser]
 have hp:(pre++ser a).length<l.length:=by rw[ep];simp
 have pa:=ser_pos a
 refine⟨fun f n hn=>?_,fun f E st h1 hE=>?_⟩
 ·have q1:=(ha pre _ ea).1 (f+1) n hn
  have q3:=chk1 ep hl (n:=n+1) (by omega) (by show 0≤tks k∧(tks k).toNat≤_;rw[hk];exact⟨by decide,by show 1≤n+1;omega⟩) (by simp;omega) f
  rw[la]at q3
  rw[lt,show f+((ser a).length+1)=f+1+(ser a).length by omega,q1,q3]
  show F93_l1 5000 l f ((n+1+1 - (tks k).toNat:Nat):Int) _=_
  rw[hk];rfl
 ·have ga:=gr_len a (2*pre.length)
  have q1:=(ha pre _ ea).2 (f+1) E st h1 hE
  have q3:=of1 (x:=x) (y:=y) ep hl (st:=st++[gP a (2*pre.length)]) (E:=E++gr a (2*pre.length)) (by show 0≤tks k∧(tks k).toNat≤_;rw[hk];exact⟨by decide,by simp⟩) (by simp;omega) (by simp;omega) f
  rw[la]at q3
  have gq:gin (.un k a) (2*pre.length)=2*(pre.length+(ser a).length):=by unfold gin;rw[lt];omega
  have tk:(st++[gP a (2*pre.length)]).take ((st++[gP a (2*pre.length)]).length - (tks (S131.mk k VZ).f0).toNat)=st:=by
   show (st++[gP a (2*pre.length)]).take ((st++[gP a (2*pre.length)]).length - (tks k).toNat)=st
   rw[hk,show (st++[gP a (2*pre.length)]).length - (1:Int).toNat=st.length by simp]
   simp
  have g:gP (.un k a) (2*pre.length)=S150.mk ((2*(pre.length+(ser a).length):Nat):Int) ((2*(pre.length+(ser a).length)+1:Nat):Int):=by
   unfold gP gI gO;rw[gq]
  have ne:NE (2*(pre.length+(ser a).length)) (S131.mk k VZ) (st++[gP a (2*pre.length)])=([fe (gI (.un k a) (2*pre.length)) (gI a (2*pre.length)),fe (gO a (2*pre.length)) (gO (.un k a) (2*pre.length))]++(if k≠6 then [fe (gO a (2*pre.length)) (gI a (2*pre.length))]else [])++(if k≠5 then [fe (gI (.un k a) (2*pre.length)) (gO (.un k a) (2*pre.length))]else [])):=by
   unfold NE
   rw[lg1]
   show (if k=0 then _ else if k=1 then _ else if k=2 then _ else if k=3 then _ else _)=_
   rw[if_neg (by omega),if_neg (by omega),if_neg (by omega),if_neg (by omega)]
   unfold gI gO;rw[gq];rfl
  rw[lt,show f+((ser a).length+1)=f+1+(ser a).length by omega,q1,q3,tk,g,ne]
  simp only[gr,List.append_assoc]
  rfl
theorem tree_l {l:List S131} (hl:l.length≤400) (x y:Int):∀ t:Rx,ROK t→TL l x y t
 | .non,_=>TL.leaf hl rfl rfl (by simp) fun q s0=>rfl
 | .one v,h=>TL.leaf hl rfl rfl ⟨fun _=>h.2,fun _=>rfl⟩ fun q s0=>rfl
 | .cat a b,h=>TL.two hl (k:=2) rfl (by decide) rfl (fun q s0=>by
    unfold NE;rw[lg1,lg2];rfl) (tree_l hl x y a h.1) (tree_l hl x y b h.2)
 | .alt a b,h=>TL.two hl (k:=3) rfl (by decide) rfl (fun q s0=>by
    unfold NE;rw[lg1,lg2];rfl) (tree_l hl x y a h.1) (tree_l hl x y b h.2)
 | .un k a,h=>TL.un hl h.1 h.2.1 (tree_l hl x y a h.2.2)
def gN (t:Rx):S121:=S121.mk ((2*(ser t).length:Nat):Int) (gr t 0) (gI t 0) (gO t 0)
theorem nof_ser {t:Rx} (ht:ROK t) (hz:(ser t).length≤400):F74 5000 (ser t)=some (gN t,0):=by
 obtain⟨h1,h2⟩:=tree_l hz 0 0 t ht [] [] (by simp)
 have c:F93 5000 (ser t)=some 0:=by
  unfold F93
  have:=h1 (5000 - (ser t).length) 0 (by simp)
  rw[show 5000 - (ser t).length+(ser t).length=5000 by omega]at this
  rw[if_neg (by omega)]
  refine this.trans ?_
  rw[show 5000 - (ser t).length=4999 - (ser t).length+1 by omega,F93_l1.eq_2,if_neg (by simp)]
  rfl
 unfold F74
 rw[c,Option.bind_some,if_neg (by simp)]
 have:=h2 (5000 - (ser t).length) [] [] (by simp) (by simp)
 rw[show 5000 - (ser t).length+(ser t).length=5000 by omega]at this
 refine this.trans ?_
 rw[show 5000 - (ser t).length=4999 - (ser t).length+1 by omega,F74_l1.eq_2,if_neg (by simp)]
 unfold gN F74_c0
 simp[gP,lget]
theorem gIO (t:Rx) (q:Nat):(q:Int)≤gI t q∧gO t q=gI t q+1∧gI t q+2=(qb t q:Int)∧q+2≤qb t q:=by have:=ser_pos t;unfold gO gI gin qb;omega
theorem gI_cat (a b:Rx) (q:Nat):gI (.cat a b) q=(qb b (qb a q):Int):=by unfold gI gin qb;simp[ser];omega
theorem gI_alt (a b:Rx) (q:Nat):gI (.alt a b) q=(qb b (qb a q):Int):=by unfold gI gin qb;simp[ser];omega
theorem gI_un (k:Int) (a:Rx) (q:Nat):gI (.un k a) q=(qb a q:Int):=by unfold gI gin qb;simp[ser]
def ER (q r:Nat) (e:S152):Prop:=(q:Int)≤e.f0∧e.f0<(r:Int)∧(q:Int)≤e.f1∧e.f1<(r:Int)∧U e.f2
theorem ER.fe {q r:Nat} {a b:Int} (h1:(q:Int)≤a∧a<(r:Int)) (h2:(q:Int)≤b∧b<(r:Int)):ER q r (Go.Avl.T7.fe a b):=⟨h1.1,h1.2,h2.1,h2.2,U_zero⟩
theorem ER.up {q r q' r':Nat} {e:S152} (h:ER q r e) (h1:q'≤q) (h2:r≤r'):ER q' r' e:=by
 obtain⟨a,b,c,d,u⟩:=h
 exact⟨by omega,by omega,by omega,by omega,u⟩
theorem un_mem {k:Int} {a:Rx} {q:Nat} {e:S152} (h:e∈gr (.un k a) q):e∈gr a q∨e=fe (gI (.un k a) q) (gI a q)∨e=fe (gO a q) (gO (.un k a) q)∨(k≠6∧e=fe (gO a q) (gI a q))∨(k≠5∧e=fe (gI (.un k a) q) (gO (.un k a) q)):=by
 simp only[gr,List.mem_append,List.mem_cons,List.not_mem_nil,or_false]at h
 rcases h with h| ((h|h)|h)|h
 ·exact .inl h
 ·exact .inr (.inl h)
 ·exact .inr (.inr (.inl h))
 ·by_cases c:k≠6
  ·rw[if_pos c]at h;exact .inr (.inr (.inr (.inl ⟨c,List.mem_singleton.1 h⟩)))
  ·rw[if_neg c]at h;cases h
 ·by_cases c:k≠5
  ·rw[if_pos c]at h;exact .inr (.inr (.inr (.inr ⟨c,List.mem_singleton.1 h⟩)))
  ·rw[if_neg c]at h;cases h
theorem gr_rng:∀ (t:Rx) (q:Nat),ROK t→∀ e∈gr t q,ER q (qb t q) e
 | .non,q,_,e,h=>by
   have g:=gIO .non q
   rw[show e=_ from List.mem_singleton.1 h]
   exact .fe ⟨by omega,by omega⟩ ⟨by omega,by omega⟩
 | .one s,q,ht,e,h=>by
   have g:=gIO (.one s) q
   rw[show e=_ from List.mem_singleton.1 h]
   exact⟨by show _≤gI _ _;omega,by show gI _ _<_;omega,by show _≤gO _ _;omega,by show gO _ _<_;omega,ht.1⟩
 | .cat a b,q,ht,e,h=>by
   have g:=gIO (.cat a b) q
   have g1:=gI_cat a b q
   have ga:=gIO a q
   have gb:=gIO b (qb a q)
   simp only[gr,List.mem_append,List.mem_cons,List.not_mem_nil,or_false]at h
   rcases h with(h|h)|h|h|h
   ·exact(gr_rng a q ht.1 e h).up (Nat.le_refl _) (by omega)
   ·exact(gr_rng b _ ht.2 e h).up (by omega) (by omega)
   all_goals rw[h];exact .fe ⟨by omega,by omega⟩ ⟨by omega,by omega⟩
 | .alt a b,q,ht,e,h=>by
   have g:=gIO (.alt a b) q
   have g1:=gI_alt a b q
   have ga:=gIO a q
   have gb:=gIO b (qb a q)
   simp only[gr,List.mem_append,List.mem_cons,List.not_mem_nil,or_false]at h
   rcases h with(h|h)|h|h|h|h
   ·exact(gr_rng a q ht.1 e h).up (Nat.le_refl _) (by omega)
   ·exact(gr_rng b _ ht.2 e h).up (by omega) (by omega)
   all_goals rw[h];exact .fe ⟨by omega,by omega⟩ ⟨by omega,by omega⟩
 | .un k a,q,ht,e,h=>by
   have g:=gIO (.un k a) q
   have g1:=gI_un k a q
   have ga:=gIO a q
   rcases un_mem h with h|h|h|⟨_,h⟩|⟨_,h⟩
   ·exact(gr_rng a q ht.2.2 e h).up (Nat.le_refl _) (by omega)
   all_goals rw[h];exact .fe ⟨by omega,by omega⟩ ⟨by omega,by omega⟩
inductive PW (l:List S152):Int→List Nat→Int→Prop
 | nil (p:Int):PW l p [] p
 | eps {e:S152} {w:List Nat} {r:Int}:e∈l→e.f3=true→PW l e.f1 w r→PW l e.f0 w r
 | byte {e:S152} {b:Nat} {w:List Nat} {r:Int}:e∈l→e.f3=false→tb e.f2 b=true→PW l e.f1 w r→PW l e.f0 (b::w) r
theorem PW.fe {l:List S152} {a b:Int} {w:List Nat} {r:Int} (h:Go.Avl.T7.fe a b∈l) (k:PW l b w r):PW l a w r:=PW.eps (e:=Go.Avl.T7.fe a b) h rfl k
theorem PW.app {l:List S152} {p q r:Int} {v w:List Nat} (h:PW l p v q) (k:PW l q w r):PW l p (v++w) r:=by
 induction h with
 | nil=>exact k
 | eps he hf _ ih=>exact .eps he hf (ih k)
 | byte he hf hb _ ih=>exact .byte he hf hb (ih k)
theorem pw_ok:∀ (t:Rx) (q:Nat) (L:List S152),ROK t→(∀ e∈gr t q,e∈L)→∀ w,Lx t w→PW L (gI t q) w (gO t q)
 | .non,q,L,_,h,w,k=>by
   rw[show w=[]from k]
   exact .fe (h _ (List.mem_singleton.2 rfl)) (.nil _)
 | .one s,q,L,_,h,w,k=>by
   obtain⟨b,rfl,hb⟩:=k
   exact PW.byte (e:=S152.mk (gI (.one s) q) (gO (.one s) q) s false) (h _ (List.mem_singleton.2 rfl)) rfl hb (.nil _)
 | .cat a b,q,L,ht,h,w,k=>by
   obtain⟨x,y,rfl,hx,hy⟩:=k
   have h1:=pw_ok a q L ht.1 (fun e he=>h e (by simp[gr,he])) x hx
   have h2:=pw_ok b (qb a q) L ht.2 (fun e he=>h e (by simp[gr,he])) y hy
   have h3:=h2.app (.fe (h (fe (gO b (qb a q)) (gO (.cat a b) q)) (by simp[gr])) (.nil _))
   rw[List.append_nil]at h3
   exact .fe (h (fe (gI (.cat a b) q) (gI a q)) (by simp[gr])) (h1.app (.fe (h (fe (gO a q) (gI b (qb a q))) (by simp[gr])) h3))
 | .alt a b,q,L,ht,h,w,k=>by
   rcases k with k|k
   ·have h3:=(pw_ok a q L ht.1 (fun e he=>h e (by simp[gr,he])) w k).app (.fe (h (fe (gO a q) (gO (.alt a b) q)) (by simp[gr])) (.nil _))
    rw[List.append_nil]at h3
    exact .fe (h (fe (gI (.alt a b) q) (gI a q)) (by simp[gr])) h3
   ·have h3:=(pw_ok b (qb a q) L ht.2 (fun e he=>h e (by simp[gr,he])) w k).app (.fe (h (fe (gO b (qb a q)) (gO (.alt a b) q)) (by simp[gr])) (.nil _))
    rw[List.append_nil]at h3
    exact .fe (h (fe (gI (.alt a b) q) (gI b (qb a q))) (by simp[gr])) h3
 | .un k a,q,L,ht,h,w,kw=>by
   have ih:=pw_ok a q L ht.2.2 (fun e he=>h e (by simp[gr,he]))
   have e1:=h (fe (gI (.un k a) q) (gI a q)) (by simp[gr])
   have e2:=h (fe (gO a q) (gO (.un k a) q)) (by simp[gr])
   have e4:k≠5→fe (gI (.un k a) q) (gO (.un k a) q)∈L:=fun c=>h _ (by simp[gr,c])
   have one:∀ x,Lx a x→PW L (gI (.un k a) q) x (gO (.un k a) q):=fun x hx=>by
    have h3:=(ih x hx).app (.fe e2 (.nil _))
    rw[List.append_nil]at h3
    exact .fe e1 h3
   have loop:k≠6→∀ y,SL (Lx a) y→PW L (gO a q) y (gO (.un k a) q):=fun c y hy=>by
    have e3:=h (fe (gO a q) (gI a q)) (by simp[gr,c])
    induction hy with
    | nil=>exact .fe e2 (.nil _)
    | step x y _ hx _ ihy=>exact .fe e3 ((ih x hx).app ihy)
   have plus:k≠6→∀ x y,Lx a x→SL (Lx a) y→PW L (gI (.un k a) q) (x++y) (gO (.un k a) q):=fun c x y hx hy=>.fe e1 ((ih x hx).app (loop c y hy))
   unfold Lx at kw
   by_cases c6:k=6
   ·rw[if_pos c6]at kw
    rcases kw with rfl|kw
    ·exact .fe (e4 (by omega)) (.nil _)
    ·exact one w kw
   ·rw[if_neg c6]at kw
    by_cases c4:k=4
    ·rw[if_pos c4]at kw
     cases kw with
     | nil=>exact .fe (e4 (by omega)) (.nil _)
     | step x y _ hx hy=>exact plus c6 x y hx hy
    ·rw[if_neg c4]at kw
     obtain⟨x,y,rfl,hx,hy⟩:=kw
     exact plus c6 x y hx hy
def LB:Rx→Nat→(List Nat→Prop)→Int→List Nat→Prop
 | .non,q,K,p=>K
 | .one s,q,K,p=>if p=gO (.one s) q then K else fun w=>∃ b v,w=b::v∧tb s b=true∧K v
 | .cat a b,q,K,p=>if p<(qb a q:Int)then LB a q (LB b (qb a q) K (gI b (qb a q))) p else if p<gI (.cat a b) q then LB b (qb a q) K p else if p=gI (.cat a b) q then LB a q (LB b (qb a q) K (gI b (qb a q))) (gI a q)else K
 | .alt a b,q,K,p=>if p<(qb a q:Int)then LB a q K p else if p<gI (.alt a b) q then LB b (qb a q) K p else if p=gI (.alt a b) q then(fun w=>LB a q K (gI a q) w∨LB b (qb a q) K (gI b (qb a q)) w)else K
 | .un k a,q,K,p=>let K':List Nat→Prop:=if k=6 then K else fun w=>∃ x y,w=x++y∧SL (Lx a) x∧K y
   if p<gI (.un k a) q then LB a q K' p else if p=gI (.un k a) q then(fun w=>LB a q K' (gI a q) w∨(k≠5∧K w))else K
theorem LB_cat (a b:Rx) (q:Nat) (K:List Nat→Prop) (p:Int):LB (.cat a b) q K p=if p<(qb a q:Int)then LB a q (LB b (qb a q) K (gI b (qb a q))) p else if p<gI (.cat a b) q then LB b (qb a q) K p else if p=gI (.cat a b) q then LB a q (LB b (qb a q) K (gI b (qb a q))) (gI a q)else K:=rfl
theorem LB_alt (a b:Rx) (q:Nat) (K:List Nat→Prop) (p:Int):LB (.alt a b) q K p=if p<(qb a q:Int)then LB a q K p else if p<gI (.alt a b) q then LB b (qb a q) K p else if p=gI (.alt a b) q then(fun w=>LB a q K (gI a q) w∨LB b (qb a q) K (gI b (qb a q)) w)else K:=rfl
theorem LB_un (k:Int) (a:Rx) (q:Nat) (K:List Nat→Prop) (p:Int):LB (.un k a) q K p=if p<gI (.un k a) q then LB a q (if k=6 then K else fun w=>∃ x y,w=x++y∧SL (Lx a) x∧K y) p else if p=gI (.un k a) q then(fun w=>LB a q (if k=6 then K else fun w=>∃ x y,w=x++y∧SL (Lx a) x∧K y) (gI a q) w∨(k≠5∧K w))else K:=rfl
def RSe (S:Int→List Nat→Prop) (e:S152):Prop:=(e.f3=true→∀ w,S e.f1 w→S e.f0 w)∧(e.f3=false→∀ b w,tb e.f2 b=true→S e.f1 w→S e.f0 (b::w))
theorem RSe.of {S S':Int→List Nat→Prop} {e:S152} (h:RSe S e) (h0:S' e.f0=S e.f0) (h1:S' e.f1=S e.f1):RSe S' e:=by
 unfold RSe;rw[h0,h1];exact h
theorem RSe.fe {S:Int→List Nat→Prop} {a b:Int} (h:∀ w,S b w→S a w):RSe S (Go.Avl.T7.fe a b):=⟨fun _=>h,fun h=>by cases h⟩
theorem PW.lab {l:List S152} {S:Int→List Nat→Prop} (hs:∀ e∈l,RSe S e) {p r:Int} {w:List Nat} (h:PW l p w r) (k:S r []):S p w:=by
 induction h with
 | nil=>exact k
 | eps he hf _ ih=>exact(hs _ he).1 hf _ (ih k)
 | byte he hf hb _ ih=>exact(hs _ he).2 hf _ _ hb (ih k)
theorem lb_ok:∀ (t:Rx) (q:Nat) (K:List Nat→Prop),ROK t→(∀ e∈gr t q,RSe (LB t q K) e)∧LB t q K (gO t q)=K∧(∀ w,LB t q K (gI t q) w→∃ x y,w=x++y∧Lx t x∧K y)
 | .non,q,K,_=>⟨fun e he=>by
    rw[show e=_ from List.mem_singleton.1 he];exact .fe fun w h=>h,rfl,fun w h=>⟨[],w,rfl,rfl,h⟩⟩
 | .one s,q,K,_=>by
   have g:=gIO (.one s) q
   have hI:LB (.one s) q K (gI (.one s) q)=fun w=>∃ b v,w=b::v∧tb s b=true∧K v:=by unfold LB;rw[if_neg (by omega)]
   have hO:LB (.one s) q K (gO (.one s) q)=K:=by unfold LB;rw[if_pos rfl]
   refine⟨fun e he=>?_,hO,fun w h=>?_⟩
   ·rw[show e=_ from List.mem_singleton.1 he]
    refine⟨fun h=>(by cases h),fun _ b w hb h=>?_⟩
    show LB (.one s) q K (gI (.one s) q) (b::w)
    have h:LB (.one s) q K (gO (.one s) q) w:=h
    rw[hO]at h
    rw[hI]
    exact⟨b,w,rfl,hb,h⟩
   ·rw[hI]at h
    obtain⟨b,v,rfl,hb,hv⟩:=h
    exact⟨[b],v,rfl,⟨b,rfl,hb⟩,hv⟩
 | .cat a b,q,K,ht=>by
   have g:=gIO (.cat a b) q
   have g1:=gI_cat a b q
   have ga:=gIO a q
   have gb:=gIO b (qb a q)
   obtain⟨b1,b2,b3⟩:=lb_ok b (qb a q) K ht.2
   generalize hK:LB b (qb a q) K (gI b (qb a q))=K1
   obtain⟨a1,a2,a3⟩:=lb_ok a q K1 ht.1
   have cA:∀ p,p<(qb a q:Int)→LB (.cat a b) q K p=LB a q K1 p:=fun p h=>by rw[LB_cat,if_pos h,hK]
   have cB:∀ p,(qb a q:Int)≤p→p<gI (.cat a b) q→LB (.cat a b) q K p=LB b (qb a q) K p:=fun p h k=>by rw[LB_cat,if_neg (by omega),if_pos k]
   have cI:LB (.cat a b) q K (gI (.cat a b) q)=LB a q K1 (gI a q):=by rw[LB_cat,if_neg (by omega),if_neg (by omega),if_pos rfl,hK]
   have cO:LB (.cat a b) q K (gO (.cat a b) q)=K:=by rw[LB_cat,if_neg (by omega),if_neg (by omega),if_neg (by omega)]
   refine⟨fun e he=>?_,cO,fun w h=>?_⟩
   ·simp only[gr,List.mem_append,List.mem_cons,List.not_mem_nil,or_false]at he
    rcases he with(he|he)|he|he|he
    ·have r:=gr_rng a q ht.1 e he
     exact(a1 e he).of (cA _ r.2.1) (cA _ r.2.2.2.1)
    ·have r:=gr_rng b _ ht.2 e he
     exact(b1 e he).of (cB _ r.1 (by have:=r.2.1;omega)) (cB _ r.2.2.1 (by have:=r.2.2.2.1;omega))
    ·rw[he];refine .fe fun w h=>?_
     rw[cI];rw[cA _ (by omega)]at h;exact h
    ·rw[he];refine .fe fun w h=>?_
     rw[cA _ (by omega),a2, ←hK];rw[cB _ (by omega) (by omega)]at h;exact h
    ·rw[he];refine .fe fun w h=>?_
     rw[cB _ (by omega) (by omega),b2];rw[cO]at h;exact h
   ·rw[cI]at h
    obtain⟨x,y,rfl,hx,hy⟩:=a3 w h
    rw[←hK]at hy
    obtain⟨y1,y2,rfl,h1,h2⟩:=b3 y hy
    exact⟨x++y1,y2,by simp,⟨x,y1,rfl,hx,h1⟩,h2⟩
 | .alt a b,q,K,ht=>by
   have g:=gIO (.alt a b) q
   have g1:=gI_alt a b q
   have ga:=gIO a q
   have gb:=gIO b (qb a q)
   obtain⟨b1,b2,b3⟩:=lb_ok b (qb a q) K ht.2
   obtain⟨a1,a2,a3⟩:=lb_ok a q K ht.1
   have cA:∀ p,p<(qb a q:Int)→LB (.alt a b) q K p=LB a q K p:=fun p h=>by rw[LB_alt,if_pos h]
   have cB:∀ p,(qb a q:Int)≤p→p<gI (.alt a b) q→LB (.alt a b) q K p=LB b (qb a q) K p:=fun p h k=>by rw[LB_alt,if_neg (by omega),if_pos k]
   have cI:LB (.alt a b) q K (gI (.alt a b) q)=fun w=>LB a q K (gI a q) w∨LB b (qb a q) K (gI b (qb a q)) w:=by rw[LB_alt,if_neg (by omega),if_neg (by omega),if_pos rfl]
   have cO:LB (.alt a b) q K (gO (.alt a b) q)=K:=by rw[LB_alt,if_neg (by omega),if_neg (by omega),if_neg (by omega)]
   refine⟨fun e he=>?_,cO,fun w h=>?_⟩
   ·simp only[gr,List.mem_append,List.mem_cons,List.not_mem_nil,or_false]at he
    rcases he with(he|he)|he|he|he|he
    ·have r:=gr_rng a q ht.1 e he
     exact(a1 e he).of (cA _ r.2.1) (cA _ r.2.2.2.1)
    ·have r:=gr_rng b _ ht.2 e he
     exact(b1 e he).of (cB _ r.1 (by have:=r.2.1;omega)) (cB _ r.2.2.1 (by have:=r.2.2.2.1;omega))
    ·rw[he];refine .fe fun w h=>?_
     rw[cI];rw[cA _ (by omega)]at h;exact .inl h
    ·rw[he];refine .fe fun w h=>?_
     rw[cA _ (by omega),a2];rw[cO]at h;exact h
    ·rw[he];refine .fe fun w h=>?_
     rw[cI];rw[cB _ (by omega) (by omega)]at h;exact .inr h
    ·rw[he];refine .fe fun w h=>?_
     rw[cB _ (by omega) (by omega),b2];rw[cO]at h;exact h
   ·rw[cI]at h
    rcases h with h|h
    ·obtain⟨x,y,rfl,hx,hy⟩:=a3 w h
     exact⟨x,y,rfl,.inl hx,hy⟩
    ·obtain⟨x,y,rfl,hx,hy⟩:=b3 w h
     exact⟨x,y,rfl,.inr hx,hy⟩
 | .un k a,q,K,ht=>by
   have g:=gIO (.un k a) q
   have g1:=gI_un k a q
   have ga:=gIO a q
   have kr:=ht.1
   generalize hK:(if k=6 then K else fun w=>∃ x y,w=x++y∧SL (Lx a) x∧K y:List Nat→Prop)=K1
   obtain⟨a1,a2,a3⟩:=lb_ok a q K1 ht.2.2
   have up:∀ w,K w→K1 w:=fun w h=>by
    rw[←hK];split
    ·exact h
    ·exact⟨[],w,rfl,.nil,h⟩
   have cA:∀ p,p<(qb a q:Int)→LB (.un k a) q K p=LB a q K1 p:=fun p h=>by
    rw[LB_un,if_pos (by omega),hK]
   have cI:LB (.un k a) q K (gI (.un k a) q)=fun w=>LB a q K1 (gI a q) w∨(k≠5∧K w):=by
    rw[LB_un,if_neg (by omega),if_pos rfl,hK]
   have cO:LB (.un k a) q K (gO (.un k a) q)=K:=by
    rw[LB_un,if_neg (by omega),if_neg (by omega)]
   refine⟨fun e he=>?_,cO,fun w h=>?_⟩
   ·rcases un_mem he with he|he|he|⟨c,he⟩|⟨c,he⟩
    ·have r:=gr_rng a q ht.2.2 e he
     exact(a1 e he).of (cA _ r.2.1) (cA _ r.2.2.2.1)
    ·rw[he];refine .fe fun w h=>?_
     rw[cI];rw[cA _ (by omega)]at h;exact .inl h
    ·rw[he];refine .fe fun w h=>?_
     rw[cA _ (by omega),a2];rw[cO]at h;exact up w h
    ·rw[he];refine .fe fun w h=>?_
     rw[cA _ (by omega),a2];rw[cA _ (by omega)]at h
     obtain⟨x,y,rfl,hx,hy⟩:=a3 w h
     rw[←hK,if_neg c]at hy⊢
     obtain⟨u,v,rfl,hu,hv⟩:=hy
     refine⟨x++u,v,by simp,?_,hv⟩
     by_cases e:x=[]
     ·rw[e];exact hu
     ·exact .step x u e hx hu
    ·rw[he];refine .fe fun w h=>?_
     rw[cI];rw[cO]at h;exact .inr ⟨c,h⟩
   ·rw[cI]at h
    have nil:k≠5→Lx (.un k a) []:=fun c=>by
     unfold Lx
     by_cases c6:k=6
     ·rw[if_pos c6];exact .inl rfl
     ·rw[if_neg c6]
      by_cases c4:k=4
      ·rw[if_pos c4];exact .nil
      ·have:=ht.2.1;omega
    rcases h with h|⟨c,h⟩
    ·obtain⟨x,y,rfl,hx,hy⟩:=a3 w h
     rw[←hK]at hy
     by_cases c6:k=6
     ·rw[if_pos c6]at hy
      exact⟨x,y,rfl,by unfold Lx;rw[if_pos c6];exact .inr hx,hy⟩
     ·rw[if_neg c6]at hy
      obtain⟨u,v,rfl,hu,hv⟩:=hy
      refine⟨x++u,v,by simp,?_,hv⟩
      unfold Lx
      rw[if_neg c6]
      by_cases c4:k=4
      ·rw[if_pos c4]
       by_cases e:x=[]
       ·rw[e];exact hu
       ·exact .step x u e hx hu
      ·rw[if_neg c4];exact⟨x,u,rfl,hx,hu⟩
    ·exact⟨[],w,rfl,nil c,h⟩
theorem gr_lang {t:Rx} (ht:ROK t) (q:Nat) (w:List Nat):PW (gr t q) (gI t q) w (gO t q)↔Lx t w:=by
 refine⟨fun h=>?_,pw_ok t q _ ht (fun e he=>he) w⟩
 obtain⟨h1,h2,h3⟩:=lb_ok t q (fun w=>w=[]) ht
 obtain⟨x,y,rfl,hx,hy⟩:=h3 w (h.lab h1 (by rw[h2]))
 rw[hy,List.append_nil];exact hx
def hx (d:Nat):Int:=if d<10 then 48+d else 87+d
def tbl (n:Nat):List Int:=if n=10 then [92,110]else if n=9 then [92,116]else if n=13 then [92,114]else if n<32∨126<n then [92,120,hx (n / 16),hx (n%16)]else if n=92 then [92,92]else [(n:Int)]
theorem tbl_eq:∀ n:Nat,n<256→F141 5000 (w8 n) (ByteArray.mk #[])=some (strOfNums (tbl n)):=by decide+kernel
abbrev D16:ByteArray:=ByteArray.mk #[48,49,50,51,52,53,54,55,56,57,97,98,99,100,101,102]
theorem hex_eq:∀ n:Nat,n<256→(0≤(IntKind.i64.wrap ((n:Int).tdiv (16:Int)))∧(IntKind.i64.wrap ((n:Int).tdiv (16:Int)))≤(w64 ((IntKind.i64.wrap ((n:Int).tdiv (16:Int)))+(1:Int)))∧(w64 ((IntKind.i64.wrap ((n:Int).tdiv (16:Int)))+(1:Int)))≤(D16.size:Int))∧
 ((ByteArray.mk #[92,120]).size+(D16.extract (IntKind.i64.wrap ((n:Int).tdiv (16:Int))).toNat (w64 ((IntKind.i64.wrap ((n:Int).tdiv (16:Int)))+(1:Int))).toNat).size≤9223372036854775807)∧
 (0≤((n:Int).tmod (16:Int))∧((n:Int).tmod (16:Int))≤(w64 (((n:Int).tmod (16:Int))+(1:Int)))∧(w64 (((n:Int).tmod (16:Int))+(1:Int)))≤(D16.size:Int))∧
 (((ByteArray.mk #[92,120])++(D16.extract (IntKind.i64.wrap ((n:Int).tdiv (16:Int))).toNat (w64 ((IntKind.i64.wrap ((n:Int).tdiv (16:Int)))+(1:Int))).toNat)).size+(D16.extract ((n:Int).tmod (16:Int)).toNat (w64 (((n:Int).tmod (16:Int))+(1:Int))).toNat).size≤9223372036854775807)∧
 (((ByteArray.mk #[92,120])++(D16.extract (IntKind.i64.wrap ((n:Int).tdiv (16:Int))).toNat (w64 ((IntKind.i64.wrap ((n:Int).tdiv (16:Int)))+(1:Int))).toNat))++(D16.extract ((n:Int).tmod (16:Int)).toNat (w64 (((n:Int).tmod (16:Int))+(1:Int))).toNat))=strOfNums [92,120,hx (n / 16),hx (n%16)]:=by decide+kernel
def hit2 (s:ByteArray) (n:Nat):Bool:=decide (1<s.size)&&decide ((n=10∧byteAt s 1=110)∨(n=9∧byteAt s 1=116)∨(n=13∧byteAt s 1=114))
def hit4 (s:ByteArray) (n:Nat):Bool:=decide (3<s.size)&&decide (byteAt s 1=120∧byteAt s 2=hx (n / 16)∧byteAt s 3=hx (n%16))
theorem w8_nat (n:Nat) (h:n<256):w8 (n:Int)=n:=w8_id (by omega) (by omega)
theorem tbl_two:∀ n:Nat,n<256→(strOfNums (tbl n)).size=2→byteAt (strOfNums (tbl n)) 1≠92→(n=10∨n=9∨n=13):=by decide+kernel
theorem hx_u8:∀ d:Nat,d<16→0≤hx d∧hx d≤255:=by decide+kernel
theorem tbl_u8:∀ n:Nat,n<256→∀ x∈tbl n,0≤x∧x≤255:=by decide+kernel
theorem first_l (s:ByteArray) (h0:byteAt s 0=92) (n m:Nat) (hn:n<256):
 F138_l1 5000 s (m+1) (n:Int)=if hit2 s n=true then some ((n:Int),2,true)else if hit4 s n=true then some ((n:Int),4,true)else F138_l1 5000 s m ((n+1:Nat):Int):=by
 have lt:(n:Int)<256:=by omega
 obtain⟨g1,g2,g3,g4,g5⟩:=hex_eq n hn
 have hw:w64 ((n:Int)+1)=((n+1:Nat):Int):=by rw[w64_id (by omega) (by omega)];omega
 rw[F138_l1.eq_2,if_pos lt,tbl_eq n hn,Option.bind_some]
 have e2:(if((strOfNums (tbl n)).size:Int)=(2:Int)then if 0≤(1:Int)∧(1:Int)<((strOfNums (tbl n)).size:Int)then if(byteAt (strOfNums (tbl n)) (1:Int))≠(92:Int)then if(1:Int)<(s.size:Int)then if 0≤(0:Int)∧(0:Int)≤(2:Int)∧(2:Int)≤(s.size:Int)then some (decide ((s.extract (0:Int).toNat (2:Int).toNat)=strOfNums (tbl n)))
  else none
  else some (false)
  else some (false)
  else none
  else some (false))=some (hit2 s n):=by
  by_cases a:((strOfNums (tbl n)).size:Int)=2
  ·rw[if_pos a,if_pos ⟨by omega,by omega⟩]
   by_cases b:byteAt (strOfNums (tbl n)) 1≠92
   ·rw[if_pos b]
    have h3:=tbl_two n hn (by omega) b
    by_cases c:(1:Int)<(s.size:Int)
    ·rw[if_pos c,if_pos ⟨by omega,by omega,by omega⟩]
     have hx:=extract_bytes s 2 (by omega)
     have hr:(List.range 2).map (fun i:Nat=>byteAt s (i:Int))=[92,byteAt s 1]:=by
      show [byteAt s ((0:Nat):Int),byteAt s ((1:Nat):Int)]=_
      simp[h0]
     rw[hr]at hx
     have hx':s.extract (0:Int).toNat (2:Int).toNat=strOfNums [92,byteAt s 1]:=hx
     have hu:=byteAt_u8 s 1
     have c':1<s.size:=by omega
     rw[hx']
     congr 1
     have inj:strOfNums [92,byteAt s 1]=strOfNums (tbl n)↔ [92,byteAt s 1]=tbl n:=⟨strOf_inj (by simp;omega) (tbl_u8 n hn),fun h=>by rw[h]⟩
     simp only[inj]
     rcases h3 with rfl|rfl|rfl
     ·simp[hit2,c',tbl]
     ·simp[hit2,c',tbl]
     ·simp[hit2,c',tbl]
    ·have c':¬ 1<s.size:=by omega
     rw[if_neg c];simp[hit2,c']
   ·rw[if_neg b]
    have:¬ (n=10∨n=9∨n=13):=by
     rintro (rfl|rfl|rfl)<;>exact b (by decide)
    simp[hit2];omega
  ·rw[if_neg a]
   have:¬ (n=10∨n=9∨n=13):=by
    rintro (rfl|rfl|rfl)<;>exact a (by decide)
   simp[hit2];omega
 rw[e2,Option.bind_some,w8_nat n hn]
 by_cases a:hit2 s n=true
 ·rw[if_pos a,if_pos a]
 ·rw[if_neg a,if_neg a,if_pos g1,if_pos g2,if_pos g3,if_pos g4,g5]
  have e4:(if(3:Int)<(s.size:Int)then if 0≤(0:Int)∧(0:Int)≤(4:Int)∧(4:Int)≤(s.size:Int)then some (decide ((s.extract (0:Int).toNat (4:Int).toNat)=strOfNums [92,120,hx (n / 16),hx (n%16)]))
   else none
   else some (false))=some (hit4 s n):=by
   by_cases c:(3:Int)<(s.size:Int)
   ·rw[if_pos c,if_pos ⟨by omega,by omega,by omega⟩]
    have hx':=extract_bytes s 4 (by omega)
    have hr:(List.range 4).map (fun i:Nat=>byteAt s (i:Int))=[92,byteAt s 1,byteAt s 2,byteAt s 3]:=by
     show [byteAt s ((0:Nat):Int),byteAt s ((1:Nat):Int),byteAt s ((2:Nat):Int),byteAt s ((3:Nat):Int)]=_
     simp[h0]
    rw[hr]at hx'
    have hx'':s.extract (0:Int).toNat (4:Int).toNat=strOfNums [92,byteAt s 1,byteAt s 2,byteAt s 3]:=hx'
    have u1:=byteAt_u8 s 1
    have u2:=byteAt_u8 s 2
    have u3:=byteAt_u8 s 3
    have v1:=hx_u8 (n / 16) (by omega)
    have v2:=hx_u8 (n%16) (by omega)
    have inj:strOfNums [92,byteAt s 1,byteAt s 2,byteAt s 3]=strOfNums [92,120,hx (n / 16),hx (n%16)]↔ [92,byteAt s 1,byteAt s 2,byteAt s 3]=[92,120,hx (n / 16),hx (n%16)]:=⟨strOf_inj (by simp;omega) (by simp;omega),fun h=>by rw[h]⟩
    have c':3<s.size:=by omega
    rw[hx'']
    simp only[inj]
    simp[hit4,c']
   ·have c':¬ 3<s.size:=by omega
    rw[if_neg c];simp[hit4,c']
  rw[e4,Option.bind_some,hw]
theorem none_l (s:ByteArray) (h0:byteAt s 0=92) (hno:∀ j:Nat,j<256→hit2 s j=false∧hit4 s j=false):∀ (m i:Nat),i≤256→256-i<m→F138_l1 5000 s m (i:Int)=F138_c0 5000 s
 | 0,i,_,h=>by omega
 | m+1,i,hi,h=>by
   by_cases a:i<256
   ·obtain⟨k1,k2⟩:=hno i a
    rw[first_l s h0 i m a,k1,k2]
    simp only[Bool.false_eq_true,if_false]
    exact none_l s h0 hno m (i+1) (by omega) (by omega)
   ·rw[F138_l1.eq_2,if_neg (by omega)]
theorem one_l (s:ByteArray) (h0:byteAt s 0=92) (u:Nat) (hu:u<256) (hit:hit2 s u=true∨hit4 s u=true) (hno:∀ j:Nat,j<u→hit2 s j=false∧hit4 s j=false):∀ (m i:Nat),i≤u→u-i<m→
 F138_l1 5000 s m (i:Int)=some ((u:Int),if hit2 s u=true then 2 else 4,true)
 | 0,i,_,h=>by omega
 | m+1,i,hi,h=>by
   rw[first_l s h0 i m (by omega)]
   by_cases a:i=u
   ·subst a
    by_cases b:hit2 s i=true
    ·rw[if_pos b,if_pos b]
    ·rw[if_neg b,if_neg b,if_pos (hit.resolve_left b)]
   ·obtain⟨k1,k2⟩:=hno i (by omega)
    rw[k1,k2]
    simp only[Bool.false_eq_true,if_false]
    exact one_l s h0 u hu hit hno m (i+1) (by omega) (by omega)
def hv (b:Nat):Int:=if 48≤b∧b≤57 then(b:Int) -48 else if 97≤b∧b≤102 then(b:Int) -87 else -1
theorem value_eq:∀ b:Nat,b<256→F150 5000 (b:Int)=some (hv b):=by decide+kernel
theorem hv_hx:∀ b:Nat,b<256→0≤hv b→(hv b).toNat<16∧hx (hv b).toNat=b:=by decide+kernel
theorem hx_hv:∀ d:Nat,d<16→hv (hx d).toNat=d∧0≤hx d∧hx d<256:=by decide+kernel
theorem word_eq:∀ b:Nat,b<256→F131 5000 (b:Int)=some (decide ((48≤b∧b≤57)∨(97≤b∧b≤122)∨(65≤b∧b≤90))):=by decide+kernel
theorem hexor_eq:∀ a:Nat,a<16→∀ b:Nat,b<16→w8 (bits .or .i64 (IntKind.i64.wrap ((a:Int)*2 ^ (min (4:Int).toNat IntKind.i64.bits))) (b:Int))=((16*a+b:Nat):Int):=by decide+kernel
theorem nohit (s:ByteArray) (h:¬ byteAt s 1=110∧¬ byteAt s 1=116∧¬ byteAt s 1=114∧¬ byteAt s 1=120) (j:Nat):hit2 s j=false∧hit4 s j=false:=by
 obtain⟨a,b,c,d⟩:=h
 simp[hit2,hit4,a,b,c,d]
theorem short_eq (s:ByteArray) (h0:byteAt s 0=92) (hz:s.size=1):F138_l1 5000 s 5000 0=some (0,0,false):=by
 have:=none_l s h0 (fun j _=>by simp[hit2,hit4,hz]) 5000 0 (by omega) (by omega)
 rw[show ((0:Nat):Int)=0 from rfl]at this
 rw[this,F138_c0,if_neg (by omega),Option.bind_some,if_neg (by simp)]
theorem c0_eq (s:ByteArray) (hz:1<s.size):F138_c0 5000 s=F148_c0 5000 s:=by
 obtain⟨b,hb⟩:∃ b:Nat,byteAt s 1=b:=⟨(byteAt s 1).toNat,by have:=byteAt_u8 s 1;omega⟩
 have hlt:b<256:=by have:=byteAt_u8 s 1;omega
 have g:0≤(1:Int)∧(1:Int)<(s.size:Int):=⟨by omega,by omega⟩
 have g1:(1:Int)<(s.size:Int):=by omega
 unfold F138_c0 F148_c0
 simp only[if_pos g,if_pos g1,hb,word_eq b hlt,Option.bind_some]
 clear hb g g1 hz
 revert b
 have key:∀ b:Nat,b<256→(Option.bind (α:=Bool) (if(32:Int)≤(b:Int)then if(b:Int)≤(126:Int)then some (!(decide ((48≤b∧b≤57)∨(97≤b∧b≤122)∨(65≤b∧b≤90))))else some false else some false) fun b6=>if b6=true then some ((b:Int),(2:Int),true)else some ((0:Int),(0:Int),false))=(if(32≤b∧b≤126)∧¬ ((48≤b∧b≤57)∨(97≤b∧b≤122)∨(65≤b∧b≤90))then some ((b:Int),(2:Int),true)else some ((0:Int),(0:Int),false)):=by decide+kernel
 intro b hlt
 decide+revert+kernel
theorem l_hit2 (s:ByteArray) (h0:byteAt s 0=92) (hz:1<s.size) (u:Nat) (hu:(u=10∧byteAt s 1=110)∨(u=9∧byteAt s 1=116)∨(u=13∧byteAt s 1=114)):F138_l1 5000 s 5000 0=some ((u:Int),2,true):=by
 have hh:hit2 s u=true:=by simp[hit2,hz];omega
 have:=one_l s h0 u (by omega) (.inl hh) (fun j hj=>by
  refine⟨?_,?_⟩
  ·simp only[hit2,Bool.and_eq_false_iff,decide_eq_false_iff_not];right;omega
  ·simp only[hit4,Bool.and_eq_false_iff,decide_eq_false_iff_not];right;omega) 5000 0 (by omega) (by omega)
 rw[if_pos hh]at this
 exact this
theorem c0_some (s:ByteArray):∃ t,F148_c0 5000 s=some t:=by
 obtain⟨b,hb⟩:∃ b:Nat,byteAt s 1=b:=⟨(byteAt s 1).toNat,by have:=byteAt_u8 s 1;omega⟩
 have hlt:b<256:=by have:=byteAt_u8 s 1;omega
 apply Option.isSome_iff_exists.1
 unfold F148_c0
 simp only[hb]
 clear hb
 revert b
 decide+kernel
theorem hex_none (s:ByteArray) (h0:byteAt s 0=92) (c4:byteAt s 1=120) (hz:1<s.size) (hno:∀ j:Nat,j<256→hit4 s j=false):F138_l1 5000 s 5000 0=some (0,0,false):=by
 have hn:=none_l s h0 (fun j hj=>⟨by simp[hit2,c4],hno j hj⟩) 5000 0 (by omega) (by omega)
 rw[show ((0:Nat):Int)=0 from rfl]at hn
 rw[hn,c0_eq s hz]
 unfold F148_c0;simp only[c4];rfl
theorem hex_case (s:ByteArray) (h0:byteAt s 0=92) (c4:byteAt s 1=120) (hz:1<s.size):∃ t,F148_c2 5000 s=some t∧F138_l1 5000 s 5000 0=some t:=by
 obtain⟨b,hb⟩:∃ b:Nat,byteAt s 2=b:=⟨(byteAt s 2).toNat,by have:=byteAt_u8 s 2;omega⟩
 have hbl:b<256:=by have:=byteAt_u8 s 2;omega
 obtain⟨d,hd⟩:∃ d:Nat,byteAt s 3=d:=⟨(byteAt s 3).toNat,by have:=byteAt_u8 s 3;omega⟩
 have hdl:d<256:=by have:=byteAt_u8 s 3;omega
 unfold F148_c2
 by_cases z:(4:Int)≤(s.size:Int)
 ·have g2:0≤(2:Int)∧(2:Int)<(s.size:Int):=⟨by omega,by omega⟩
  have g3:0≤(3:Int)∧(3:Int)<(s.size:Int):=⟨by omega,by omega⟩
  have z':3<s.size:=by omega
  simp only[if_pos z,if_pos g2,if_pos g3,hb,hd,value_eq b hbl,value_eq d hdl,Option.bind_some]
  have miss:(¬ 0≤hv b∨¬ 0≤hv d)→∀ j:Nat,j<256→hit4 s j=false:=by
   intro hm j hj
   simp only[hit4,hb,hd,Bool.and_eq_false_iff,decide_eq_false_iff_not]
   right
   rintro⟨_,k1,k2⟩
   have q1:=hx_hv (j / 16) (by omega)
   have q2:=hx_hv (j%16) (by omega)
   rw[←k1]at q1;rw[←k2]at q2
   simp only[Int.toNat_natCast]at q1 q2
   omega
  by_cases v:0≤hv b
  ·simp only[if_pos v,Option.bind_some]
   by_cases w:0≤hv d
   ·rw[if_pos (by simpa using w)]
    obtain⟨p1,p2⟩:=hv_hx b hbl v
    obtain⟨p3,p4⟩:=hv_hx d hdl w
    obtain⟨x,hx'⟩:∃ x:Nat,hv b=x:=⟨(hv b).toNat,by omega⟩
    obtain⟨y,hy⟩:∃ y:Nat,hv d=y:=⟨(hv d).toNat,by omega⟩
    rw[hx']at p1 p2⊢;rw[hy]at p3 p4⊢
    simp only[Int.toNat_natCast]at p1 p2 p3 p4
    refine⟨_,rfl,?_⟩
    rw[hexor_eq x p1 y p3]
    have e1:(16*x+y) / 16=x:=by omega
    have e2:(16*x+y)%16=y:=by omega
    have n2:hit2 s (16*x+y)=false:=by simp[hit2,c4]
    have h4:hit4 s (16*x+y)=true:=by simp[hit4,z',c4,hb,hd,e1,e2,p2,p4]
    have:=one_l s h0 (16*x+y) (by omega) (.inr h4) (fun j hj=>⟨by simp[hit2,c4],by
     simp only[hit4,hb,hd,Bool.and_eq_false_iff,decide_eq_false_iff_not]
     right
     rintro⟨_,k1,k2⟩
     have q1:=(hx_hv (j / 16) (by omega)).1
     have q2:=(hx_hv (j%16) (by omega)).1
     rw[←k1]at q1;rw[←k2]at q2
     simp only[Int.toNat_natCast]at q1 q2
     omega⟩) 5000 0 (by omega) (by omega)
    rw[n2]at this
    exact this
   ·rw[if_neg (by simpa using w)]
    exact⟨_,rfl,hex_none s h0 c4 hz (miss (.inr w))⟩
  ·simp only[if_neg v,Option.bind_some]
   rw[if_neg (by simp)]
   exact⟨_,rfl,hex_none s h0 c4 hz (miss (.inl v))⟩
 ·rw[if_neg z,Option.bind_some,if_neg (by simp)]
  exact⟨_,rfl,hex_none s h0 c4 hz (fun j _=>by simp[hit4];omega)⟩
theorem read_eq (s:ByteArray) (hs:s.size≤1000000):∃ t,F148 5000 s=some t∧F138 5000 s=some t:=by
 unfold F148 F138
 by_cases e:s=ByteArray.mk #[]
 ·rw[if_pos e,if_pos e];exact⟨_,rfl,rfl⟩
 have hpos:0<s.size:=by
  rcases Nat.eq_zero_or_pos s.size with h|h
  ·exact absurd (by rw[as_bytes s,h];rfl) e
  ·exact h
 have g:0≤(0:Int)∧(0:Int)<(s.size:Int):=⟨by omega,by omega⟩
 simp only[if_neg e,if_pos g]
 by_cases a:byteAt s 0=92
 ·simp only[a,ne_eq,not_true,if_false]
  by_cases b:(s.size:Int)<2
  ·rw[if_pos b,short_eq s a (by omega)];exact⟨_,rfl,rfl⟩
  ·have g1:0≤(1:Int)∧(1:Int)<(s.size:Int):=⟨by omega,by omega⟩
   rw[if_neg b,if_pos g1]
   by_cases c1:byteAt s 1=110
   ·rw[if_pos c1,l_hit2 s a (by omega) 10 (by omega)];exact⟨_,rfl,rfl⟩
   rw[if_neg c1]
   by_cases c2:byteAt s 1=116
   ·rw[if_pos c2,l_hit2 s a (by omega) 9 (by omega)];exact⟨_,rfl,rfl⟩
   rw[if_neg c2]
   by_cases c3:byteAt s 1=114
   ·rw[if_pos c3,l_hit2 s a (by omega) 13 (by omega)];exact⟨_,rfl,rfl⟩
   rw[if_neg c3]
   by_cases c4:byteAt s 1=120
   ·rw[if_pos c4]
    exact hex_case s a c4 (by omega)
   ·rw[if_neg c4]
    have hn:=none_l s a (fun j _=>nohit s ⟨c1,c2,c3,c4⟩ j) 5000 0 (by omega) (by omega)
    rw[show ((0:Nat):Int)=0 from rfl]at hn
    rw[hn,c0_eq s (by omega)]
    by_cases c5:byteAt s 1=0
    ·rw[if_pos c5];exact⟨_,rfl,by unfold F148_c0;simp only[c5];rfl⟩
    ·rw[if_neg c5]
     obtain⟨t,ht⟩:=c0_some s
     exact⟨t,ht,ht⟩
 ·rw[if_pos a,if_pos a];exact⟨_,rfl,rfl⟩
def inB (t:ByteArray) (c:Int):Bool:=(F109 5000 t c).getD false
theorem in_l (t:ByteArray) (hz:t.size≤1000) (c:Int):∀ (m i fuel:Nat),i+m=t.size→m<fuel→∃ b,F109_l1 5000 t c fuel (i:Int)=some b∧∀ (s:ByteArray) (a:Nat) (dp:Int),a<s.size→byteAt s (a:Int)=c→F133_l1 5000 (S140.mk s (a:Int) dp) t fuel (i:Int)=some b
 | 0,i,fu+1,hi,_=>⟨false,by rw[F109_l1.eq_2,if_neg (by omega)];rfl,fun s a dp _ _=>by rw[F133_l1.eq_2,if_neg (by omega)];rfl⟩
 | m+1,i,fu+1,hi,hf=>by
   obtain⟨b,hb,hb2⟩:=in_l t hz c m (i+1) fu (by omega) (by omega)
   by_cases q:byteAt t (i:Int)=c
   ·refine⟨true,by rw[F109_l1.eq_2,if_pos (by omega),if_pos ⟨by omega,by omega⟩,if_pos q],fun s a dp ha hc=>?_⟩
    rw[F133_l1.eq_2,if_pos (by omega)]
    show (if 0≤(a:Int)∧(a:Int)<(s.size:Int)then _ else none)=_
    rw[if_pos ⟨by omega,by omega⟩,if_pos ⟨by omega,by omega⟩]
    exact if_pos (by rw[q];exact hc)
   ·refine⟨b,by rw[F109_l1.eq_2,if_pos (by omega),if_pos ⟨by omega,by omega⟩,if_neg q,w6t (by omega) (by omega)];exact_mod_cast hb,fun s a dp ha hc=>?_⟩
    rw[F133_l1.eq_2,if_pos (by omega)]
    show (if 0≤(a:Int)∧(a:Int)<(s.size:Int)then _ else none)=_
    rw[if_pos ⟨by omega,by omega⟩,if_pos ⟨by omega,by omega⟩,w6t (by omega) (by omega)]
    refine(if_neg (fun e=>q ?_)).trans (by exact_mod_cast hb2 s a dp ha hc)
    rw[←hc];exact e.symm
theorem in_eq (t:ByteArray) (hz:t.size≤1000) (c:Int):F109 5000 t c=some (inB t c):=by
 obtain⟨b,hb,_⟩:=in_l t hz c t.size 0 5000 (by omega) (by omega)
 have hb:F109 5000 t c=some b:=hb
 unfold inB;rw[hb];rfl
theorem end_eq (s:ByteArray) (a:Nat) (dp:Int) (t:ByteArray) (hz:t.size≤1000):F133 5000 (S140.mk s (a:Int) dp) t=some (decide (s.size≤a)||inB t (byteAt s (a:Int))):=by
 unfold F133
 show (if(s.size:Int)≤(a:Int)then _ else _)=_
 by_cases q:s.size≤a
 ·rw[if_pos (by omega)];simp[q]
 ·rw[if_neg (by omega)]
  obtain⟨b,hb,hb2⟩:=in_l t hz (byteAt s (a:Int)) t.size 0 5000 (by omega) (by omega)
  have hb:F109 5000 t (byteAt s (a:Int))=some b:=hb
  rw[in_eq t hz]at hb
  have:=hb2 s a dp (by omega) rfl
  rw[show ((0:Nat):Int)=0 from rfl]at this
  rw[this, ←hb];simp[q]
theorem eat_eq (s:ByteArray) (hz:s.size≤1000) (a:Nat) (dp c:Int):F116 5000 (S140.mk s (a:Int) dp) c=some (if a<s.size∧byteAt s (a:Int)=c then(true,S140.mk s ((a+1:Nat):Int) dp)else(false,S140.mk s (a:Int) dp)):=by
 unfold F116
 show Option.bind (if(a:Int)<(s.size:Int)then if 0≤(a:Int)∧(a:Int)<(s.size:Int)then some (decide (byteAt s (a:Int)=c))else none else some false) _=_
 by_cases q:a<s.size
 ·rw[if_pos (by omega),if_pos ⟨by omega,by omega⟩,Option.bind_some]
  by_cases e:byteAt s (a:Int)=c
  ·rw[decide_eq_true e,if_pos rfl,if_pos ⟨q,e⟩]
   show some (true,S140.mk s (w64 ((a:Int)+1)) dp)=_
   rw[w6t (by omega) (by omega)];rfl
  ·rw[decide_eq_false e,if_neg (by simp),if_neg (by simp[e])]
 ·rw[if_neg (by omega),Option.bind_some,if_neg (by simp),if_neg (by simp[q])]
theorem rbyte_eq (s:ByteArray) (hz:s.size≤1000) {a:Nat} (ha:a≤s.size) (dp:Int):∃ (c:Nat) (ok:Bool) (n:Nat),F144 5000 (S140.mk s (a:Int) dp)=some ((c:Int),ok,S140.mk s ((a+n:Nat):Int) dp)∧F138 5000 (s.extract a s.size)=some ((c:Int),(n:Int),ok)∧c<256∧a+n≤s.size∧(ok=true→1≤n):=by
 obtain⟨y,y1,c,n,y2,y3,y4,y5⟩:=eread_tot (s.extract a s.size)
 have hx:(s.extract a s.size).size=s.size-a:=by simp
 rw[hx]at y4
 obtain⟨t,t1,t2⟩:=read_eq (s.extract a s.size) (by omega)
 have e:t=y:=Option.some.inj (t1.symm.trans y1)
 subst e
 refine⟨c,t.2.2,n,?_,by rw[t2];exact congrArg some y2,y3,by omega,y5⟩
 unfold F144
 show (if 0≤(a:Int)∧(a:Int)≤(s.size:Int)∧(s.size:Int)≤(s.size:Int)then(F148 5000 (s.extract (a:Int).toNat (s.size:Int).toNat)).bind _ else none)=_
 rw[if_pos ⟨by omega,by omega,Int.le_refl _⟩,Int.toNat_natCast,Int.toNat_natCast,y1,Option.bind_some]
 show some (t.1,t.2.2,S140.mk s (w64 ((a:Int)+t.2.1)) dp)=_
 rw[y2]
 show some ((c:Int),t.2.2,S140.mk s (w64 ((a:Int)+(n:Int))) dp)=_
 rw[w6t (by omega) (by omega)];rfl
theorem in93 (c:Int):inB (ByteArray.mk #[93]) c=decide (c=93):=by
 unfold inB F109
 rw[show (5000:Nat)=4998+1+1 from rfl,F109_l1.eq_2,if_pos (by decide),if_pos (by decide)]
 have e:byteAt (ByteArray.mk #[93]) 0=93:=rfl
 rw[e]
 by_cases q:(93:Int)=c
 ·rw[if_pos q,decide_eq_true q.symm];rfl
 ·rw[if_neg q,decide_eq_false (fun h=>q h.symm),F109_l1.eq_2,if_neg (by decide)];rfl
theorem tb_VZ {x:Nat} (h:x<256):tb VZ x=false:=tb_zero x h
theorem ne_VZ {v:Vector Int 4} {x:Nat} (h:x<256) (e:tb v x=true):v≠VZ:=fun q=>by rw[q,tb_VZ h]at e;cases e
theorem dot_eq:∃ c,F142 5000=some c∧F136 5000 3 VZ VZ=some c∧U c∧c≠VZ:=by
 obtain⟨c,c1,c2,c3⟩:=full_eq
 obtain⟨d,d1,d2,d3⟩:=rput_eq 3 U_zero U_zero
 have e:c=d:=ext_tb c2 d2 fun x hx=>by rw[c3 x hx,d3 x hx];unfold opb;simp[tb_zero x hx]
 subst e
 exact⟨c,c1,d1,c2,ne_VZ (x:=0) (by omega) (c3 0 (by omega))⟩
theorem one_eq {c:Nat} (hc:c<256):∃ v,F61 5000 [(c:Int)]=some v∧F139 5000 (lset (List.replicate 256 false) (c:Int) true)=some v∧U v∧v≠VZ:=by
 obtain⟨v,v1,v2,v3⟩:=of_l [(c:Int)] (fun b hb=>by rw[List.mem_singleton.1 hb];omega) (by simp) 1 0 5000 VZ (by simp) (by omega) U_zero
 obtain⟨d,d1,d2,d3⟩:=rof_eq (lset (List.replicate 256 false) (c:Int) true)
 have k:∀ x:Nat,x<256→tb v x=decide (x=c):=fun x hx=>by
  rw[v3 x hx,tb_VZ hx,Bool.false_or,List.drop_zero]
  by_cases q:x=c
  ·rw[decide_eq_true q,decide_eq_true (by rw[q];exact List.mem_singleton.2 rfl)]
  ·rw[decide_eq_false q,decide_eq_false (fun h=>q (by have:=List.mem_singleton.1 h;omega))]
 have e:v=d:=ext_tb v2 d2 fun x hx=>by
  rw[k x hx,d3 x hx]
  unfold lset
  rw[Int.toNat_natCast,List.getD_eq_getElem?_getD]
  by_cases q:x=c
  ·subst q;rw[List.getElem?_set_self (by simp;omega)];simp
  ·rw[List.getElem?_set_ne (fun h=>q h.symm),List.getElem?_replicate,if_pos hx];simp[q]
 subst e
 exact⟨v,v1,d1,v2,ne_VZ hc (by rw[k c hc];simp)⟩
theorem eat_y {s:ByteArray} (hz:s.size≤1000) {a:Nat} {c:Int} (h:a<s.size∧byteAt s (a:Int)=c) (dp:Int):F116 5000 (S140.mk s (a:Int) dp) c=some (true,S140.mk s ((a+1:Nat):Int) dp):=by rw[eat_eq s hz,if_pos h]
theorem eat_n {s:ByteArray} (hz:s.size≤1000) {a:Nat} {c:Int} (h:¬ (a<s.size∧byteAt s (a:Int)=c)) (dp:Int):F116 5000 (S140.mk s (a:Int) dp) c=some (false,S140.mk s (a:Int) dp):=by rw[eat_eq s hz,if_neg h]
def VL (v:Vector Int 4) (L:List Bool):Prop:=L.length=256∧U v∧∀ x,x<256→tb v x=L.getD x false
theorem fill_l (rec_:Int→List Bool→Option (List S131×Int)) (x39:Int) {t:Nat} (ht:t<256):∀ (m i fuel:Nat) (L:List Bool),i+m=t+1→m<fuel→L.length=256→
 ∃ L':List Bool,F137_l2 5000 rec_ x39 (t:Int) fuel L (i:Int)=rec_ x39 L'∧L'.length=256∧∀ x,x<256→L'.getD x false=(L.getD x false||decide (i≤x∧x≤t))
 | 0,i,fu+1,L,hi,_,hL=>⟨L,by rw[F137_l2.eq_2,w6t (x:=(t:Int)) (by omega) (by omega),if_neg (by omega)],hL,fun x hx=>by rw[decide_eq_false (by omega)];simp⟩
 | m+1,i,fu+1,L,hi,hf,hL=>by
   obtain⟨L',h1,h2,h3⟩:=fill_l rec_ x39 ht m (i+1) fu (lset L (i:Int) true) (by omega) (by omega) (by rw[lset_len];exact hL)
   refine⟨L',?_,h2,fun x hx=>?_⟩
   ·rw[F137_l2.eq_2,w6t (x:=(t:Int)) (by omega) (by omega),if_pos (by omega),if_pos ⟨by omega,by omega⟩,w6t (by omega) (by omega)]
    exact_mod_cast h1
   ·rw[h3 x hx]
    unfold lset
    rw[Int.toNat_natCast,List.getD_eq_getElem?_getD,List.getD_eq_getElem?_getD]
    by_cases q:i=x
    ·subst q
     rw[List.getElem?_set_self (by omega),decide_eq_true (show i≤i∧i≤t by omega)];simp
    ·rw[List.getElem?_set_ne q]
     congr 1
     exact decide_eq_decide.2 (by omega)
def BR (s:ByteArray) (a0:Nat) (dp:Int) (o:Option (List S131×Bool×S140)) (w:Option (List S131×Int)):Prop:=
 ∃ (l:List S131) (ok:Bool) (a':Nat),o=some (l,ok,S140.mk s (a':Int) dp)∧a0≤a'∧a'≤s.size∧l.length≤1∧
  (ok=true→a0<a'∧w=some (l,(a':Int))∧∃ v,l=[S131.mk 1 v]∧U v∧v≠VZ)∧(ok=false→∃ z,w=some ([],z))
theorem BR.no {s:ByteArray} {a0 a':Nat} {dp z:Int} {l:List S131} (h:a0≤a') (h2:a'≤s.size) (hl:l.length≤1:=by simp):BR s a0 dp (some (l,false,S140.mk s (a':Int) dp)) (some ([],z)):=
 ⟨l,false,a',rfl,h,h2,hl,(fun q=>by cases q),fun _=>⟨z,rfl⟩⟩
theorem br_end {s:ByteArray} (hz:s.size≤1000) {a0 a:Nat} (h0:a0≤a) (ha:a≤s.size) (hc:a<s.size→byteAt s (a:Int)=93) (dp:Int) {v:Vector Int 4} (hv:U v):BR s a0 dp (F143_c0 5000 s (a:Int) dp v) (F137_c0 5000 s (a:Int) v):=by
 unfold F143_c0 F137_c0
 by_cases q:a<s.size
 ·rw[eat_y hz ⟨q,hc q⟩,Option.bind_some,if_pos rfl,if_neg (by omega),Option.bind_some]
  show BR s a0 dp ((some (decide (v=Vector.replicate 4 (0:Int)))).bind _) _
  rw[Option.bind_some]
  by_cases e:v=Vector.replicate 4 (0:Int)
  ·rw[decide_eq_true e,if_pos rfl]
   exact BR.no (a':=a+1) (by omega) (by omega)
  ·rw[decide_eq_false e,if_neg (by simp),w6t (by omega) (by omega)]
   exact⟨[S131.mk 1 v],true,a+1,rfl,by omega,by omega,by simp,fun _=>⟨by omega,rfl,v,rfl,hv,e⟩,fun h=>by cases h⟩
 ·rw[eat_n hz (fun h=>q h.1),Option.bind_some,if_neg (by simp),if_pos (by omega),Option.bind_some,if_pos rfl]
  exact BR.no h0 ha
theorem br_loop {s:ByteArray} (hz:s.size≤1000) (t2:Bool×S140) (dp:Int) {a0:Nat}:∀ (m a f1 f2:Nat) (v:Vector Int 4) (L:List Bool),s.size-a<m→m≤f1→m≤f2→a0≤a→a≤s.size→VL v L→
 BR s a0 dp (F143_l3 5000 t2 f1 s (a:Int) dp v) (F137_l4 5000 s t2.1 f2 (a:Int) L)
 | 0,_,_,_,_,_,h,_,_,_,_,_=>by omega
 | m+1,a,f1,f2,v,L,hm,hf1,hf2,h0,ha,hv=>by
   obtain⟨f1,rfl⟩:∃ q,f1=q+1:=⟨f1-1,by omega⟩
   obtain⟨f2,rfl⟩:∃ q,f2=q+1:=⟨f2-1,by omega⟩
   rw[F143_l3.eq_2,F137_l4.eq_2,end_eq s a dp _ (by decide),Option.bind_some,in93]
   by_cases q:a<s.size∧byteAt s (a:Int)≠93
   ·
    have qa:=q.1
    have e1:(decide (s.size≤a)||decide (byteAt s (a:Int)=93))=false:=by simp[q.2];omega
    rw[e1,if_pos (by simp),if_pos (by omega),if_pos ⟨by omega,by omega⟩,Option.bind_some,decide_eq_true q.2,if_pos rfl,if_pos ⟨by omega,by omega,Int.le_refl _⟩,Int.toNat_natCast,Int.toNat_natCast,end_eq s a dp _ (by decide),Option.bind_some]
    obtain⟨c,ok,n,b1,b2,b3,b4,b5⟩:=rbyte_eq s hz ha dp
    rw[b2,Option.bind_some,b1]
    have e2:(decide (s.size≤a)||inB (ByteArray.mk #[94,45,47,34]) (byteAt s (a:Int)))=inB (ByteArray.mk #[94,45,47,34]) (byteAt s (a:Int)):=by rw[decide_eq_false (by omega),Bool.false_or]
    rw[e2,if_pos (show 0≤(a:Int)∧(a:Int)<(s.size:Int)from⟨by omega,by omega⟩),in_eq _ (by decide),Option.bind_some,Option.bind_some]
    by_cases q2:inB (ByteArray.mk #[94,45,47,34]) (byteAt s (a:Int))=true
    ·rw[if_pos q2]
     have:(if(!((c:Int),(n:Int),ok).2.2)=true then some true else some (inB (ByteArray.mk #[94,45,47,34]) (byteAt s (a:Int))))=some true:=by rw[q2];split<;>rfl
     rw[this,Option.bind_some,if_pos rfl]
     exact BR.no h0 ha
    ·rw[if_neg q2]
     cases ok with
     | false=>
       show BR s a0 dp (if(!false)=true then some ([],false,S140.mk s ((a+n:Nat):Int) dp)else _) _
       have e9:(if(!((c:Int),(n:Int),false).2.2)=true then some true else some (inB (ByteArray.mk #[94,45,47,34]) (byteAt s (a:Int))))=some true:=rfl
       rw[if_pos (show (!false)=true from rfl),e9,Option.bind_some,if_pos rfl]
       exact BR.no (by omega) (by omega)
     | true=>
       have n1:=b5 rfl
       show BR s a0 dp (if(!true)=true then _ else(F116 5000 (S140.mk s ((a+n:Nat):Int) dp) 45).bind _) _
       rw[if_neg (by simp),if_neg (by simp),eq_false_of_ne_true q2,Option.bind_some,if_neg (by simp)]
       have e3:w64 ((a:Int)+(n:Int))=((a+n:Nat):Int):=by rw[w6t (by omega) (by omega)];rfl
       show BR s a0 dp _ (Option.bind (if w64 ((a:Int)+(n:Int))<(s.size:Int)then if 0≤w64 ((a:Int)+(n:Int))∧w64 ((a:Int)+(n:Int))<(s.size:Int)then some (decide (byteAt s (w64 ((a:Int)+(n:Int)))=45))else none else some false) _)
       rw[e3]
       have go:∀ (a2 t:Nat),a+n≤a2→a2≤s.size→c≤t→t<256→BR s a0 dp (F143_c2 5000 (F143_l3 5000 t2 f1) v ((c:Int),true,S140.mk s ((a+n:Nat):Int) dp) s (a2:Int) dp (t:Int)) (F137_c3 5000 (F137_l4 5000 s t2.1 f2) L ((c:Int),(n:Int),true) (a2:Int) (t:Int)):=by
        intro a2 t k1 k2 k3 k4
        obtain⟨r,r1,r2,r3⟩:=range_eq b3 k4
        obtain⟨u,u1,u2,u3⟩:=Go.Avl.T7.or_eq hv.2.1 r2
        unfold F143_c2 F137_c3
        show BR s a0 dp ((F146 5000 (c:Int) (t:Int)).bind _) (F137_l2 5000 _ (a2:Int) (t:Int) 5000 L (w64 (c:Int)))
        rw[r1,Option.bind_some,u1,Option.bind_some,w6t (by omega) (by omega)]
        obtain⟨L',l1,l2,l3⟩:=fill_l (F137_l4 5000 s t2.1 f2) (a2:Int) k4 (t+1-c) c 5000 L (by omega) (by omega) hv.1
        rw[l1]
        exact br_loop hz t2 dp m a2 f1 f2 u L' (by omega) (by omega) (by omega) (by omega) k2 ⟨l2,u2,fun x hx=>by rw[u3 x hx,r3 x hx,l3 x hx,hv.2.2 x hx]⟩
       by_cases q3:a+n<s.size∧byteAt s ((a+n:Nat):Int)=45
       ·have q3a:=q3.1
        rw[eat_y hz q3,Option.bind_some,if_pos rfl,if_pos (by omega),if_pos ⟨by omega,by omega⟩,Option.bind_some,decide_eq_true q3.2,if_pos rfl,end_eq s (a+n+1) dp _ (by decide),Option.bind_some]
        have e4:w64 (((a+n:Nat):Int)+1)=((a+n+1:Nat):Int):=by rw[w6t (by omega) (by omega)];rfl
        rw[e4]
        by_cases q4:s.size≤a+n+1
        ·rw[if_pos (by simp[q4]),if_pos (by omega),Option.bind_some,if_pos rfl]
         exact BR.no (by omega) (by omega)
        ·rw[if_neg (show ¬ (s.size:Int)≤((a+n+1:Nat):Int)by omega),if_pos (show 0≤((a+n+1:Nat):Int)∧((a+n+1:Nat):Int)<(s.size:Int)from⟨by omega,by omega⟩),in_eq _ (by decide),Option.bind_some,Option.bind_some,decide_eq_false q4,Bool.false_or]
         by_cases q5:inB (ByteArray.mk #[93,94,45,47,34]) (byteAt s ((a+n+1:Nat):Int))=true
         ·rw[if_pos q5,if_pos q5]
          exact BR.no (by omega) (by omega)
         ·rw[if_neg q5,if_neg q5,if_pos ⟨by omega,by omega,Int.le_refl _⟩,Int.toNat_natCast]
          obtain⟨c',ok',n',d1,d2,d3,d4,d5⟩:=rbyte_eq s hz (a:=a+n+1) (by omega) dp
          show BR s a0 dp ((F144 5000 (S140.mk s ((a+n+1:Nat):Int) dp)).bind _) _
          rw[d1,d2,Option.bind_some,Option.bind_some]
          cases ok' with
          | false=>
            show BR s a0 dp (Option.bind (if(!false)=true then some true else _) _) (Option.bind (if(!false)=true then some true else _) _)
            rw[if_pos (show (!false)=true from rfl),Option.bind_some,Option.bind_some,if_pos rfl,if_pos rfl]
            exact BR.no (by omega) (by omega)
          | true=>
            have n2:=d5 rfl
            show BR s a0 dp (Option.bind (if(!true)=true then some true else some (decide ((c':Int)<(c:Int)))) _) (Option.bind (if(!true)=true then some true else some (decide ((c':Int)<(c:Int)))) _)
            rw[if_neg (by simp),Option.bind_some,Option.bind_some]
            by_cases q6:(c':Int)<(c:Int)
            ·rw[decide_eq_true q6,if_pos rfl,if_pos rfl]
             exact BR.no (by omega) (by omega)
            ·rw[decide_eq_false q6,if_neg (by simp),if_neg (by simp)]
             show BR s a0 dp (F143_c2 5000 _ v _ s ((a+n+1+n':Nat):Int) dp (c':Int)) (F137_c3 5000 _ L _ (w64 (((a+n+1:Nat):Int)+(n':Int))) (c':Int))
             have e5:w64 (((a+n+1:Nat):Int)+(n':Int))=((a+n+1+n':Nat):Int):=by rw[w6t (by omega) (by omega)];rfl
             rw[e5]
             exact go (a+n+1+n') c' (by omega) (by omega) (by omega) d3
       ·rw[eat_n hz q3,Option.bind_some,if_neg (by simp)]
        have:(if((a+n:Nat):Int)<(s.size:Int)then if 0≤((a+n:Nat):Int)∧((a+n:Nat):Int)<(s.size:Int)then some (decide (byteAt s ((a+n:Nat):Int)=45))else none else some false)=some false:=by
         by_cases q4:a+n<s.size
         ·rw[if_pos (by omega),if_pos ⟨by omega,by omega⟩,decide_eq_false (fun h=>q3 ⟨q4,h⟩)]
         ·rw[if_neg (by omega)]
        rw[this,Option.bind_some,if_neg (by simp)]
        exact go (a+n) c (Nat.le_refl _) b4 (Nat.le_refl _) b3
   ·have e1:(decide (s.size≤a)||decide (byteAt s (a:Int)=93))=true:=by
     by_cases k:s.size≤a
     ·simp[k]
     ·simp;right;exact Classical.not_not.1 fun h=>q ⟨by omega,h⟩
    have e2:(if(a:Int)<(s.size:Int)then if 0≤(a:Int)∧(a:Int)<(s.size:Int)then some (decide (byteAt s (a:Int)≠93))else none else some false)=some false:=by
     by_cases k:a<s.size
     ·rw[if_pos (by omega),if_pos ⟨by omega,by omega⟩,decide_eq_false (fun h=>q ⟨k,h⟩)]
     ·rw[if_neg (by omega)]
    rw[e1,if_neg (by simp),e2,Option.bind_some,if_neg (by simp)]
    have hc:a<s.size→byteAt s (a:Int)=93:=fun k=>Classical.not_not.1 fun h=>q ⟨k,h⟩
    obtain⟨d,d1,d2,d3⟩:=rof_eq L
    have ed:v=d:=ext_tb hv.2.1 d2 fun x hx=>by rw[hv.2.2 x hx,d3 x hx]
    subst ed
    unfold F143_c1 F137_c1
    rw[d1,Option.bind_some]
    cases ht:t2.1 with
    | true=>
      obtain⟨p,p1,p2,p3⟩:=not_eq hv.2.1
      obtain⟨r,r1,r2,r3⟩:=rput_eq 3 hv.2.1 hv.2.1
      have e:p=r:=ext_tb p2 r2 fun x hx=>by rw[p3 x hx,r3 x hx];rfl
      subst e
      rw[if_pos rfl,if_pos rfl,p1,r1,Option.bind_some,Option.bind_some]
      exact br_end hz h0 ha hc dp p2
    | false=>
      rw[if_neg (by simp),if_neg (by simp)]
      exact br_end hz h0 ha hc dp hv.2.1
theorem VL_zero:VL VZ (List.replicate 256 false):=⟨by simp,U_zero,fun x hx=>by rw[tb_VZ hx,List.getD_eq_getElem?_getD,List.getElem?_replicate,if_pos hx];rfl⟩
theorem br_eq {s:ByteArray} (hz:s.size≤1000) {a:Nat} (ha:a≤s.size) (dp:Int):BR s a dp (F143 5000 (S140.mk s (a:Int) dp)) (F137 5000 s (a:Int)):=by
 unfold F143 F137
 rw[if_pos (by decide)]
 by_cases q:a<s.size∧byteAt s (a:Int)=94
 ·have qa:=q.1
  rw[eat_y hz q,Option.bind_some,if_pos (by omega),if_pos ⟨by omega,by omega⟩,Option.bind_some,decide_eq_true q.2,if_pos rfl,w6t (by omega) (by omega)]
  obtain⟨l,ok,a',h1,h2,h3,hl,h4,h5⟩:=br_loop hz (true,S140.mk s ((a+1:Nat):Int) dp) dp (a0:=a+1) (s.size - (a+1)+1) (a+1) 5000 5000 VZ (List.replicate 256 false) (by omega) (by omega) (by omega) (Nat.le_refl _) (by omega) VL_zero
  exact⟨l,ok,a',h1,by omega,h3,hl,fun k=>⟨by have:=(h4 k).1;omega,(h4 k).2⟩,h5⟩
 ·rw[eat_n hz q,Option.bind_some]
  have e:(if(a:Int)<(s.size:Int)then if 0≤(a:Int)∧(a:Int)<(s.size:Int)then some (decide (byteAt s (a:Int)=94))else none else some false)=some false:=by
   by_cases k:a<s.size
   ·rw[if_pos (by omega),if_pos ⟨by omega,by omega⟩,decide_eq_false (fun h=>q ⟨k,h⟩)]
   ·rw[if_neg (by omega)]
  rw[e,Option.bind_some,if_neg (by simp)]
  exact br_loop hz (false,S140.mk s (a:Int) dp) dp (a0:=a) (s.size-a+1) a 5000 5000 VZ (List.replicate 256 false) (by omega) (by omega) (by omega) (Nat.le_refl _) ha VL_zero
end Go.Avl.T7
