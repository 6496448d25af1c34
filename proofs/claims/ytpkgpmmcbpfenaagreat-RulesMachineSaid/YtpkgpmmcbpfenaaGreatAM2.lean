/- Parts: T8M1, T8M2, T8M3, T8M4, T8P4, T8E7, T8E8, T8E9, T8EA, T8E1, T8E3, T8E4. -/
import Derived.Test.YtpkgpmmcbpfenaaGreatAM1
import Derived.Test.YtpkgpmmcbpfenaaGreatAF3
import Derived.Test.YtpkgpmmcbpfenaaGreatAv3
import Derived.Test.YtpkgpmmcbpfenaaGreatAF4
import Derived.Test.YtpkgpmmcbpfenaaGreatAF2
import Derived.Test.YtpkgpmmcbpfenaaGreatAF1
import Derived.Test.YtpkgpmmcbpfenaaGreatAF6
import Derived.Test.YtpkgpmmcbpfenaaGreatAF7
namespace Go.Avl.T8
open Go Go.RowKit Go.Proofs Go.Avl
set_option linter.all false
set_option maxRecDepth 10000
theorem w6 {x:Int} (h0: -1000000000000≤x) (h1:x≤1000000000000):AG x=x:=A1 (by omega) (by omega)
def ss:List AR→List (Vector Int 4)
 | []=>[]
 | e::l=>if e.f3=true then ss l else e.f2::ss l
theorem TD:∀ l,(ss l).length≤l.length
 | []=>Nat.le_refl _
 | e::l=>by
   have:=TD l;unfold ss;split<;>simp<;>omega
theorem Ya:∀ {l:List AR},(∀ e∈l,U e.f2)→∀ a∈ss l,U a
 | [],_,a,h=>by cases h
 | e::l,hu,a,h=>by
   unfold ss at h;split at h
   ·exact Ya (fun e' h'=>hu e' (by simp[h'])) a h
   ·rcases List.mem_cons.1 h with rfl|h
    ·exact hu e (by simp)
    ·exact Ya (fun e' h'=>hu e' (by simp[h'])) a h
theorem Po:∀ {l:List AR} {e:AR},e∈l→e.f3=false→e.f2∈ss l
 | x::l,e,h,h3=>by
   unfold ss;rcases List.mem_cons.1 h with rfl|h
   ·rw[if_neg (by rw[h3];decide)];simp
   ·split
    ·exact Po h h3
    ·exact List.mem_cons_of_mem _ (Po h h3)
theorem PN (n:Ar) (hz:n.f1.length≤8000):∀ (m i fuel:Nat) (a:List (Vector Int 4)),i+m=n.f1.length→m<fuel→a.length≤i→Ej 20000 n fuel a (i:Int)=some (a++ss (n.f1.drop i))
 | 0,i,f+1,a,hi,_,_=>by
   rw[Ej.eq_2,if_neg (by omega),List.drop_of_length_le (by omega),ss,List.append_nil];rfl
 | m+1,i,f+1,a,hi,hf,ha=>by
   have hi':i<n.f1.length:=by omega
   rw[Ej.eq_2,if_pos (by omega),if_pos ⟨by omega,by omega⟩,Ae _ i hi',List.drop_eq_getElem_cons hi',ss];unfold Jo;rw[w6 (by omega) (by omega)]
   cases b:n.f1[i].f3 with
   | true=>
     rw[if_neg (by decide),if_pos rfl];exact_mod_cast PN n hz m (i+1) f a (by omega) (by omega) (by omega)
   | false=>
     have ih:=PN n hz m (i+1) f (a++[n.f1[i].f2]) (by omega) (by omega) (by simp;omega);rw[List.append_assoc]at ih;rw[if_pos (by decide),if_pos (by simp;omega),if_neg (by decide)];exact_mod_cast ih
theorem Vq (n:Ar) (hz:n.f1.length≤8000):au 20000 n=some (ss n.f1):=by
 have:=PN n hz n.f1.length 0 20000 [] (by omega) (by omega) (by simp);rw[Int.natCast_zero,List.drop_zero,List.nil_append]at this;exact this
structure CK (n:Ar) (kk:Nat→ByteArray):Prop where
 hk:∀ b:Nat,b<256→Ti 20000 (ss n.f1) (b:Int)=some (kk b)
 iff:∀ b c:Nat,b<256→c<256→(kk b=kk c↔∀ x,sg (ss n.f1) b x=sg (ss n.f1) c x)
 U:∀ a∈ss n.f1,U a
 len:(ss n.f1).length≤8000
theorem Yw (n:Ar) (hz:n.f1.length≤8000) (hu:∀ e∈n.f1,U e.f2):∃ kk,CK n kk:=by
 have hL:=Ya hu;have hn:(ss n.f1).length≤8000:=by have:=TD n.f1;omega
 let kk:Nat→ByteArray:=fun b=>(Ti 20000 (ss n.f1) (b:Int)).getD ByteArray.empty
 have hkk:∀ b:Nat,b<256→∃ row,Ti 20000 (ss n.f1) (b:Int)=some (strOfNums row)∧kk b=strOfNums row∧Jc (ss n.f1) b (((ss n.f1).length+7) / 8) (ss n.f1).length row:=by
  intro b hb;obtain⟨row,e,hr⟩:=S8 (ss n.f1) hL hn b hb;exact⟨row,e,by show (Ti 20000 (ss n.f1) (b:Int)).getD _=_;rw[e];rfl,hr⟩
 refine⟨kk,?_,?_,hL,hn⟩
 ·intro b hb;obtain⟨row,e,e2,_⟩:=hkk b hb;rw[e,e2]
 ·intro b c hb hc;obtain⟨r,_,e1,h1⟩:=hkk b hb;obtain⟨s,_,e2,h2⟩:=hkk c hc;rw[e1,e2];exact VO (by omega) h1 h2
theorem CK.classes {n:Ar} {kk:Nat→ByteArray} (h:CK n kk):∃ v,ak 20000 (ss n.f1)=some v∧∀ c:Nat,c<256→AZ v (c:Int)=(ck kk c:Int):=by
 obtain⟨v,v1,v2⟩:=Ju kk h.hk 256 0 20000 (Vector.replicate 256 0) [] (by omega) (by omega) ⟨rfl,fun c hc=>by omega,fun s _=>rfl⟩ (fun c hc=>by omega);exact⟨v,v1,v2⟩
theorem CK.tb {n:Ar} {kk:Nat→ByteArray} (h:CK n kk) {b c:Nat} (hb:b<256) (hc:c<256) (e:kk b=kk c):∀ a∈ss n.f1,tb a b=tb a c:=by
 intro a ha;obtain⟨i,hi,rfl⟩:=List.getElem_of_mem ha;have:=(h.iff b c hb hc).1 e i;unfold sg at this;rw[decide_eq_true hi,Bool.true_and,Bool.true_and,List.getD,List.getElem?_eq_getElem hi]at this;exact this
def Fo (kk:Nat→ByteArray):Nat→Nat→List Nat
 | 0,_=>[]
 | m+1,b=>if rc kk b=b then b::Fo kk m (b+1)else Fo kk m (b+1)
theorem GS (kk:Nat→ByteArray):∀ m b,(Fo kk m b).length+nc kk b=nc kk (b+m)
 | 0,b=>by simp[Fo]
 | m+1,b=>by
   have ih:=GS kk m (b+1);rw[show b+(m+1)=b+1+m by omega, ←ih,Fo,nc];split<;>simp<;>omega
theorem Iv (kk:Nat→ByteArray):∀ m b r,b≤r→r<b+m→rc kk r=r→(Fo kk m b)[nc kk r-nc kk b]? =some r
 | 0,b,r,h1,h2,_=>by omega
 | m+1,b,r,h1,h2,hr=>by
   rw[Fo];by_cases e:r=b
   ·subst e;rw[if_pos hr,Nat.sub_self];rfl
   ·have ih:=Iv kk m (b+1) r (by omega) (by omega) hr;have hm:=HE kk (show b+1≤r by omega);split
    ·next q=>
     have e2:nc kk (b+1)=nc kk b+1:=by rw[nc,if_pos q]
     rw[e2]at ih hm;rw[show nc kk r-nc kk b=nc kk r - (nc kk b+1)+1 by omega,List.getElem?_cons_succ];exact ih
    ·next q=>
     have e2:nc kk (b+1)=nc kk b:=by rw[nc,if_neg q];rfl
     rw[e2]at ih;exact ih
theorem FX (kk:Nat→ByteArray):∀ m b r,r∈Fo kk m b→b≤r∧r<b+m∧rc kk r=r
 | 0,_,_,h=>by cases h
 | m+1,b,r,h=>by
   rw[Fo]at h;split at h
   ·next q=>
    rcases List.mem_cons.1 h with rfl|h
    ·exact⟨Nat.le_refl _,by omega,q⟩
    ·have:=FX kk m (b+1) r h;omega
   ·have:=FX kk m (b+1) r h;omega
def RP (kk:Nat→ByteArray):List Nat:=Fo kk 256 0
theorem X6 (kk:Nat→ByteArray) {b:Nat} (hb:b<256):(RP kk)[ck kk b]? =some (rc kk b):=by
 have h:=A6 kk b;have:=Iv kk 256 0 (rc kk b) (by omega) (by omega) (Fk kk b);exact this
theorem Xc (kk:Nat→ByteArray):(RP kk).length≤256:=by
 have:=GS kk 256 0;have h2:=Fv kk (0+256);unfold RP;omega
theorem Zj (kk:Nat→ByteArray) {r:Nat} (h:r∈RP kk):r<256:=by have:=FX kk 256 0 r h;omega
def vb (b:Bool):Vector Int 4:=if b=true then BP (Vector.replicate 4 (0:Int)) (0:Int) 1 else Vector.replicate 4 (0:Int)
theorem Zg (b:Bool):U (vb b):=by
 intro j hj;have:j=0∨j=1∨j=2∨j=3:=by omega
 cases b<;>rcases this with rfl|rfl|rfl|rfl<;>decide
theorem Wt (b:Bool):tb (vb b) 0=b:=by cases b<;>decide
theorem Yg (t:List Bool) (i:Nat) (hi:i<t.length):AA (t.map vb) (i:Int)=vb (AA t (i:Int)):=by
 rw[Ae _ i (by simpa using hi),Ae _ i hi,List.getElem_map]
theorem Si (t:List Bool) (hz:t.length≤8000):∀ (m i fuel:Nat) (row:List Int),i+m=t.length→m<fuel→Ea 20000 t fuel row (i:Int)=Ci 20000 (t.map vb) 0 fuel row (i:Int)
 | 0,i,f+1,row,hi,_=>by
   rw[Ea.eq_2,Ci.eq_2,List.length_map,if_neg (by omega),if_neg (by omega)];rfl
 | m+1,i,f+1,row,hi,hf=>by
   have hi':i<t.length:=by omega
   have c1:(i:Int)<(t.length:Int):=by omega
   have c2:0≤(i:Int)∧(i:Int)<(t.length:Int):=⟨by omega,c1⟩;have hh:YE 20000 (AA (t.map vb) (i:Int)) 0=some (AA t (i:Int)):=by
    have:=Pj (Zg (AA t (i:Int))) (x:=0) (by omega);rw[Yg t i hi'];rw[Wt]at this;exact_mod_cast this
   have ih:=fun row=>Si t hz m (i+1) f row (by omega) (by omega);rw[Ea.eq_2,Ci.eq_2,List.length_map];simp only[if_pos c1,if_pos c2,hh,Option.bind_some];unfold JC G0;have e:AG ((i:Int)+1)=((i+1:Nat):Int):=by rw[w6 (by omega) (by omega)];omega
   simp only[e,ih]
def H7 (t:List Bool):ByteArray:=(Xw 20000 t).getD ByteArray.empty
theorem JK (t:List Bool) (hz:t.length≤8000):∃ row,Xw 20000 t=some (strOfNums row)∧Jc (t.map vb) 0 ((t.length+7) / 8) t.length row:=by
 obtain⟨row,r1,r2⟩:=S8 (t.map vb) (fun a ha=>by obtain⟨b,_,rfl⟩:=List.mem_map.1 ha;exact Zg b) (by simpa using hz) 0 (by omega);refine⟨row,?_,by simpa using r2⟩;rw[Int.natCast_zero]at r1;rw[←r1];unfold Xw Ti;rw[List.length_map];have:=fun row=>Si t hz t.length 0 20000 row (by omega) (by omega);simp only[Int.natCast_zero]at this;simp only[this,Int.natCast_zero]
theorem VR (t:List Bool) (hz:t.length≤8000):Xw 20000 t=some (H7 t):=by
 obtain⟨row,r,_⟩:=JK t hz;unfold H7;rw[r];rfl
theorem W8 (t:List Bool) (x:Nat):sg (t.map vb) 0 x=AA t (x:Int):=by
 unfold sg AA;rw[Int.toNat_natCast,List.length_map];by_cases h:x<t.length
 ·rw[decide_eq_true h,Bool.true_and,List.getD,List.getElem?_map,List.getD,List.getElem?_eq_getElem h];exact Wt _
 ·rw[decide_eq_false h,Bool.false_and,List.getD,List.getElem?_eq_none (by omega)];rfl
theorem SY {t u:List Bool} (hl:t.length=u.length) (hz:t.length≤8000) (h:H7 t=H7 u):t=u:=by
 obtain⟨r,r1,r2⟩:=JK t hz;obtain⟨s,s1,s2⟩:=JK u (by omega);have e:strOfNums r=strOfNums s:=by
  have h1:H7 t=strOfNums r:=by unfold H7;rw[r1];rfl
  have h2:H7 u=strOfNums s:=by unfold H7;rw[s1];rfl
  rw[←h1, ←h2,h]
 apply List.ext_getElem hl;intro i h1 h2;have hr:bt r i=AA t (i:Int):=by rw[r2.2.2 i (by omega),decide_eq_true h1,Bool.true_and,W8]
 have hs:bt s i=AA u (i:Int):=by rw[s2.2.2 i (by omega),decide_eq_true h2,Bool.true_and,W8]
 have:=Cl r2.2.1 s2.2.1 e;rw[this,hs]at hr;rw[Ae _ i h1,Ae _ i h2]at hr;exact hr.symm
def QW (M:List Int) (t:List Bool) (i:Nat) (o:Int):Int:=if AA t (i:Int)=true∧i<M.length∧0≤AA M (i:Int)∧(o<0∨AA M (i:Int)<o)then AA M (i:Int)else o
def M5 (M:List Int) (t:List Bool):Nat→Nat→Int→Int
 | 0,_,o=>o
 | m+1,i,o=>M5 M t m (i+1) (QW M t i o)
def MK (M:List Int) (t:List Bool):Int:=M5 M t t.length 0 (-1)
theorem QN (x:DX) (t:List Bool) (hz:t.length≤8000):∀ (m i fuel:Nat) (o:Int),i+m=t.length→m<fuel→Eo 20000 x t fuel o (i:Int)=some (M5 x.f1 t m i o)
 | 0,i,f+1,o,hi,_=>by rw[Eo.eq_2,if_neg (by omega)];rfl
 | m+1,i,f+1,o,hi,hf=>by
   have ih:=fun o=>QN x t hz m (i+1) f o (by omega) (by omega);rw[Eo.eq_2,if_pos (by omega),if_pos ⟨by omega,by omega⟩];unfold Vj Jt;rw[w6 (x:=(i:Int)+1) (by omega) (by omega),M5];by_cases a:(x.f1.length:Int)≤(i:Int)
   ·have e:QW x.f1 t i o=o:=by unfold QW;rw[if_neg (by rintro⟨_,q,_⟩;omega)]
    rw[if_pos a,Option.bind_some,e];have:(if AA t (i:Int)=true then if(0:Int)≤ -1 then if o<0 then some true else some (decide ((-1:Int)<o))else some false else some false)=some false:=by
     by_cases c:AA t (i:Int)=true
     ·rw[if_pos c,if_neg (by decide)]
     ·rw[if_neg c]
    rw[this,Option.bind_some,if_neg (by decide)];exact_mod_cast ih o
   ·rw[if_neg a,if_pos ⟨by omega,by omega⟩,Option.bind_some];have:(if AA t (i:Int)=true then if(0:Int)≤AA x.f1 (i:Int)then if o<0 then some true else some (decide (AA x.f1 (i:Int)<o))else some false else some false)=some (decide (AA t (i:Int)=true∧i<x.f1.length∧0≤AA x.f1 (i:Int)∧(o<0∨AA x.f1 (i:Int)<o))):=by
     by_cases c:AA t (i:Int)=true
     ·rw[if_pos c];by_cases d:(0:Int)≤AA x.f1 (i:Int)
      ·rw[if_pos d];by_cases g:o<0
       ·rw[if_pos g,decide_eq_true ⟨c,by omega,d,.inl g⟩]
       ·rw[if_neg g];congr 1;rw[decide_eq_decide];exact⟨fun h=>⟨c,by omega,d,.inr h⟩,fun h=>h.2.2.2.resolve_left g⟩
      ·rw[if_neg d,decide_eq_false (fun h=>d h.2.2.1)]
     ·rw[if_neg c,decide_eq_false (fun h=>c h.1)]
    rw[this,Option.bind_some];unfold QW;by_cases q:AA t (i:Int)=true∧i<x.f1.length∧0≤AA x.f1 (i:Int)∧(o<0∨AA x.f1 (i:Int)<o)
    ·rw[if_pos (decide_eq_true q),if_pos q];exact_mod_cast ih _
    ·rw[if_neg (by simpa using q),if_neg q];exact_mod_cast ih _
theorem To (x:DX) (t:List Bool) (hz:t.length≤8000):al 20000 x t=some (MK x.f1 t):=by
 have:=QN x t hz t.length 0 20000 (-1) (by omega) (by omega);rw[Int.natCast_zero]at this;exact this
def Cb (t:List Bool):Bool:=t.any id
theorem Tj (x:DX) (t:List Bool) (hz:t.length≤8000):∀ (m i fuel:Nat) (b:Bool),i+m=t.length→m<fuel→FK 20000 x t fuel b (i:Int)=Gx 20000 x t (b||Cb (t.drop i))
 | 0,i,f+1,b,hi,_=>by
   rw[FK.eq_2,if_neg (by omega),List.drop_of_length_le (by omega)];show _=Gx 20000 x t (b||false);rw[Bool.or_false]
 | m+1,i,f+1,b,hi,hf=>by
   have hi':i<t.length:=by omega
   have ih:=fun b=>Tj x t hz m (i+1) f b (by omega) (by omega);rw[FK.eq_2,if_pos (by omega),if_pos ⟨by omega,by omega⟩,Ae _ i hi',List.drop_eq_getElem_cons hi',w6 (by omega) (by omega)];show _=Gx 20000 x t (b||(t[i]||Cb (t.drop (i+1))))
   cases b with
   | true=>rw[if_pos rfl,Option.bind_some,Bool.true_or];have:=ih true;rw[Bool.true_or]at this;exact_mod_cast this
   | false=>rw[if_neg (by decide),Option.bind_some,Bool.false_or];exact_mod_cast ih t[i]
def ix:List (List Bool)→List Bool→Option Nat
 | [],_=>none
 | r::R,t=>if r=t then some 0 else(ix R t).map (· +1)
theorem Sc:∀ (R:List (List Bool)) (s t:List Bool),ix (R++[s]) t=match ix R t with |some i=>some i|none=>if s=t then some R.length else none
 | [],s,t=>by
   show (if s=t then some 0 else none)=_;rfl
 | r::R,s,t=>by
   show (if r=t then some 0 else(ix (R++[s]) t).map (· +1))=match (if r=t then some 0 else(ix R t).map (· +1))with |some i=>some i|none=>if s=t then some (R.length+1)else none
   by_cases a:r=t
   ·rw[if_pos a,if_pos a]
   ·rw[if_neg a,if_neg a,Sc R s t]
    cases ix R t with
    | some i=>rfl
    | none=>
      show Option.map (· +1) (if s=t then some R.length else none)=if s=t then some (R.length+1)else none
      split<;>rfl
theorem TI:∀ {R:List (List Bool)} {t:List Bool} {i:Nat},ix R t=some i→R[i]? =some t
 | [],_,_,h=>by cases h
 | r::R,t,i,h=>by
   unfold ix at h;by_cases a:r=t
   ·rw[if_pos a]at h;cases h;rw[a];rfl
   ·rw[if_neg a]at h
    cases e:ix R t with
    | none=>rw[e]at h;cases h
    | some j=>
      rw[e]at h;cases h;show (r::R)[j+1]? =some t;rw[List.getElem?_cons_succ];exact TI e
def add (R:List (List Bool)) (t:List Bool):List (List Bool)×Int:=
 if Cb t=true then match ix R t with |some i=>(R,(i:Int))|none=>(R++[t],(R.length:Int))else(R, -1)
def IB (N:Nat) (m:List (ByteArray×Int)) (R:List (List Bool)):Prop:=∀ t:List Bool,t.length=N→Ay m (H7 t)=(ix R t).map Int.ofNat
theorem OP {N:Nat} (hN:N≤8000) {n:Ar} {M rp:List Int} {m:List (ByteArray×Int)} {R:List (List Bool)} {c:Vector Int 256} {nx:List (List Int)} {t:List Bool} (ht:t.length=N) (hm:IB N m R) (hR:R.length≤100000):
 ∃ m',Xi 20000 (DX.mk n M rp m R (AI.mk c nx (R.map (MK M)))) t=some ((add R t).2,DX.mk n M rp m' (add R t).1 (AI.mk c nx ((add R t).1.map (MK M))))∧IB N m' (add R t).1:=by
 have:=Tj (DX.mk n M rp m R (AI.mk c nx (R.map (MK M)))) t (by omega) t.length 0 20000 false (by omega) (by omega);rw[Int.natCast_zero,List.drop_zero,Bool.false_or]at this;unfold Xi;rw[this];unfold Gx
 cases a:Cb t with
 | false=>
   have e:add R t=(R, -1):=by unfold add;rw[if_neg (by rw[a];decide)]
   rw[e,if_pos (by decide)];exact⟨m,rfl,hm⟩
 | true=>
   rw[if_neg (by decide),VR t (by omega),Option.bind_some];have hg:=hm t ht;show ∃ m',(if((Ay m (H7 t)).isSome)=true then _ else _)=_∧_
   cases e:ix R t with
   | some i=>
     have ea:add R t=(R,(i:Int)):=by unfold add;rw[if_pos a,e]
     rw[e]at hg;rw[ea];refine⟨m,?_,hm⟩;show (if((Ay m (H7 t)).isSome)=true then some ((Ay m (H7 t)).getD 0,_)else _)=_;rw[hg];rfl
   | none=>
     have ea:add R t=(R++[t],(R.length:Int)):=by unfold add;rw[if_pos a,e]
     rw[e]at hg;have hl:(R++[t]).length=R.length+1:=by simp
     refine⟨BE m (H7 t) (R.length:Int),?_,?_⟩
     ·rw[ea,if_neg (by rw[hg];decide),if_pos (by show (R++[t]).length*24≤_;omega),To _ t (by omega),Option.bind_some,if_pos (by show (R.map (MK M)++[MK M t]).length*8≤_;simp;omega),Option.bind_some];show some (AG (((R++[t]).length:Int) -1),_)=_;rw[hl,w6 (by omega) (by omega),List.map_append];rw[show (((R.length+1:Nat):Int) -1)=(R.length:Int)by omega];rfl
     ·intro u hu;rw[ea,Dg,Sc];by_cases k:t=u
      ·subst k;rw[if_pos rfl,e];show _=Option.map Int.ofNat (if t=t then some R.length else none);rw[if_pos rfl];rfl
      ·rw[if_neg (fun h=>k (SY (by omega) (by omega) h)),hm u hu]
       cases ix R u with
       | some j=>rfl
       | none=>
         show _=Option.map Int.ofNat (if t=u then some R.length else none);rw[if_neg k]
def EV (n:Ar) (s:List Bool):List Nat→List (List Bool)→List Int→List (List Bool)×List Int
 | [],R,a=>(R,a)
 | b::bs,R,a=>EV n s bs (add R (CL n (MV n s b))).1 (a++[(add R (CL n (MV n s b))).2])
theorem Qa (R:List (List Bool)) (t:List Bool):R.length≤(add R t).1.length∧(add R t).1.length≤R.length+1:=by
 unfold add;split
 ·split<;>simp
 ·simp
theorem L3 {R:List (List Bool)} {t:List Bool} {i:Nat} {s:List Bool} (h:R[i]? =some s):(add R t).1[i]? =some s:=by
 have hi:=(List.getElem?_eq_some_iff.1 h).1;unfold add;split
 ·split
  ·exact h
  ·show (R++[t])[i]? =some s;rw[List.getElem?_append_left hi];exact h
 ·exact h
theorem U4 {N:Nat} {R:List (List Bool)} {t:List Bool} (h:∀ r∈R,r.length=N) (ht:t.length=N):∀ r∈(add R t).1,r.length=N:=by
 unfold add;split
 ·split
  ·exact h
  ·intro r hr;rcases List.mem_append.1 hr with hr|hr
   ·exact h r hr
   ·rw[List.mem_singleton.1 hr];exact ht
 ·exact h
theorem LW (n:Ar) (s:List Bool) (b:Nat):(CL n (MV n s b)).length=NN n:=by rw[Td,L8]
theorem Jh (n:Ar) (s:List Bool):∀ (bs:List Nat) (R:List (List Bool)) (a:List Int),R.length≤(EV n s bs R a).1.length∧(EV n s bs R a).1.length≤R.length+bs.length
 | [],R,a=>⟨Nat.le_refl _,Nat.le_refl _⟩
 | b::bs,R,a=>by
   have h:=Qa R (CL n (MV n s b));have ih:=Jh n s bs (add R (CL n (MV n s b))).1 (a++[(add R (CL n (MV n s b))).2]);rw[EV,List.length_cons];omega
theorem Jj (n:Ar) (s:List Bool):∀ (bs:List Nat) (R:List (List Bool)) (a:List Int),(∀ r∈R,r.length=NN n)→∀ r∈(EV n s bs R a).1,r.length=NN n
 | [],R,a,h=>h
 | b::bs,R,a,h=>Jj n s bs _ _ (U4 h (LW n s b))
theorem OG (n:Ar) (s:List Bool) {i:Nat} {t:List Bool}:∀ (bs:List Nat) (R:List (List Bool)) (a:List Int),R[i]? =some t→(EV n s bs R a).1[i]? =some t
 | [],R,a,h=>h
 | b::bs,R,a,h=>OG n s bs _ _ (L3 h)
theorem Dh {α:Type} [Inhabited α] {l:List α} {i:Nat} {x:α} (h:l[i]? =some x):AA l (i:Int)=x∧i<l.length:=by
 obtain⟨h1,h2⟩:=List.getElem?_eq_some_iff.1 h;exact⟨by rw[Ae _ i h1];exact h2,h1⟩
theorem TS {n:Ar} (h:Rt n) {kk:Nat→ByteArray} {M:List Int} {c:Vector Int 256} (rec57:Int→List AR→Int→Int→List Int→List Int→List (ByteArray×Int)→List (List Bool)→Vector Int 256→List (List Int)→List Int→Int→Option (AI×Int)) (i:Nat) (s:List Bool) (nx:List (List Int)) (hnx:nx.length≤100000) (hi:i≤100000) (bs:List Nat) (hbs:∀ b∈bs,b<256) (hbl:bs.length≤256):
 ∀ (m j fuel:Nat) (R:List (List Bool)) (a:List Int) (sm:List (ByteArray×Int)),j+m=bs.length→m<fuel→a.length≤j→IB (NN n) sm R→R[i]? =some s→R.length+m≤100000→s.length=NN n→
 ∃ sm',FH 20000 rec57 n (bs.map Int.ofNat) (i:Int) fuel n.f0 n.f1 n.f2 n.f3 M (bs.map Int.ofNat) sm R c nx (R.map (MK M)) a (j:Int)=rec57 n.f0 n.f1 n.f2 n.f3 M (bs.map Int.ofNat) sm' (EV n s (bs.drop j) R a).1 c (nx++[(EV n s (bs.drop j) R a).2]) ((EV n s (bs.drop j) R a).1.map (MK M)) ((i+1:Nat):Int)∧IB (NN n) sm' (EV n s (bs.drop j) R a).1
 | 0,j,f+1,R,a,sm,hj,_,ha,hs,hg,hR,hl=>by
   rw[FH.eq_2,List.length_map,if_neg (by omega),List.drop_of_length_le (by omega),EV];unfold Mh Mz;rw[if_pos (by simp;omega),w6 (by omega) (by omega)];exact⟨sm,rfl,hs⟩
 | m+1,j,f+1,R,a,sm,hj,hf,ha,hs,hg,hR,hl=>by
   have hj':j<bs.length:=by omega
   obtain⟨g1,g2⟩:=Dh hg;have hb:=hbs _ (List.getElem_mem hj');have eb:AA (bs.map Int.ofNat) (j:Int)=(bs[j]:Int):=by rw[Ae _ j (by simpa using hj'),List.getElem_map];rfl
   have hN:NN n≤8000:=by have:=h.nn;have:=h.n1;omega
   have hlen:=Qa R (CL n (MV n s bs[j]));obtain⟨sm',t1,t2⟩:=OP (N:=NN n) hN (n:=n) (M:=M) (rp:=bs.map Int.ofNat) (c:=c) (nx:=nx) (LW n s bs[j]) hs (by omega);obtain⟨sm2,u1,u2⟩:=TS h (kk:=kk) (M:=M) (c:=c) rec57 i s nx hnx hi bs hbs hbl m (j+1) f (add R (CL n (MV n s bs[j]))).1 (a++[(add R (CL n (MV n s bs[j]))).2]) sm' (by omega) (by omega) (by simp;omega) t2 (L3 hg) (by omega) hl;refine⟨sm2,?_,?_⟩
   ·rw[FH.eq_2,List.length_map,if_pos (by omega),if_pos ⟨by omega,by omega⟩,if_pos ⟨by omega,by omega⟩,g1,eb,VJ h s (by omega) (by omega),Option.bind_some,Int.toNat_natCast,OX h,Option.bind_some,NT (L8 _ _ _)];have:(Ar.mk n.f0 n.f1 n.f2 n.f3)=n:=rfl;rw[this,t1,Option.bind_some,if_pos (by simp;omega),w6 (by omega) (by omega),List.drop_eq_getElem_cons hj',EV];exact_mod_cast u1
   ·rw[List.drop_eq_getElem_cons hj',EV];exact u2
def Gg (n:Ar) (bs:List Nat) (B:Nat):Nat→Nat→List (List Bool)→List (List Int)→Option (List (List Bool)×List (List Int))
 | 0,_,_,_=>none
 | f+1,i,R,N=>if i<R.length then if B<R.length then none else Gg n bs B f (i+1) (EV n (R.getD i []) bs R []).1 (N++[(EV n (R.getD i []) bs R []).2])else some (R,N)
theorem Sv {n:Ar} (h:Rt n) {kk:Nat→ByteArray} {M:List Int} {c:Vector Int 256} (bs:List Nat) (hbs:∀ b∈bs,b<256) (hbl:bs.length≤256):
 ∀ (f i:Nat) (R:List (List Bool)) (N:List (List Int)) (sm:List (ByteArray×Int)),2003≤f+i→i≤2000→IB (NN n) sm R→(∀ r∈R,r.length=NN n)→R.length≤3000→N.length=i→
 FS 20000 n f n.f0 n.f1 n.f2 n.f3 M (bs.map Int.ofNat) sm R c N (R.map (MK M)) (i:Int)=match Gg n bs 2000 f i R N with |some (R',N')=>some (AI.mk c N' (R'.map (MK M)),0)|none=>some (AI.mk (Vector.replicate 256 (0:Int)) [] [],6)
 | 0,i,_,_,_,h1,h2,_,_,_,_=>by omega
 | f+1,i,R,N,sm,h1,h2,hs,hr,hR,hN=>by
   rw[FS.eq_2,Gg];by_cases a:i<R.length
   ·rw[if_pos (by omega),if_pos a];by_cases b:2000<R.length
    ·rw[if_pos (by omega),if_pos b]
    ·rw[if_neg (by omega),if_neg b];have hg:R[i]? =some (R.getD i []):=by rw[List.getD,List.getElem?_eq_getElem a];rfl
     have hl:(R.getD i []).length=NN n:=hr _ (List.mem_of_getElem? hg);obtain⟨sm',u1,u2⟩:=TS h (kk:=kk) (M:=M) (c:=c) (FS 20000 n f) i (R.getD i []) N (by omega) (by omega) bs hbs hbl bs.length 0 20000 R [] sm (by omega) (by omega) (by simp) hs hg (by omega) hl;rw[Int.natCast_zero,List.drop_zero]at u1;rw[List.drop_zero]at u2;have hrl:=Jh n (R.getD i []) bs R [];rw[u1];exact Sv h (kk:=kk) bs hbs hbl f (i+1) _ _ sm' (by omega) (by omega) u2 (Jj n _ bs R [] hr) (by omega) (by simp;omega)
   ·rw[if_neg (by omega),if_neg a];rfl
theorem Lq {n:Ar} {kk:Nat→ByteArray} {v:Vector Int 256} (hv:∀ c:Nat,c<256→AZ v (c:Int)=(ck kk c:Int)) (p1:List Int):∀ (m b fuel:Nat) (a:List Int),b+m=256→m<fuel→a.length=nc kk b→EY 20000 n p1 v fuel a (b:Int)=Jk 20000 n p1 v (a++(Fo kk m b).map Int.ofNat)
 | 0,b,f+1,a,hb,_,_=>by
   rw[EY.eq_2,if_neg (by omega),Fo,List.map_nil,List.append_nil]
 | m+1,b,f+1,a,hb,hf,ha=>by
   have hcl:=Fl kk b;rw[EY.eq_2,if_pos (by omega),if_pos ⟨by omega,by omega⟩,hv b (by omega),w6 (x:=((ck kk b:Nat):Int)) (by omega) (by omega),Fo];unfold Jx;rw[w6 (x:=(b:Int)+1) (by omega) (by omega),HW (by omega) (by omega)];have hsp:=A6 kk b;by_cases e:rc kk b=b
   ·have e2:ck kk b=nc kk b:=by unfold ck;rw[e]
    have hnl:=Fv kk b;have ih:=Lq (n:=n) hv p1 m (b+1) f (a++[(b:Int)]) (by omega) (by omega) (by rw[nc,if_pos e];simp;omega);rw[List.append_assoc]at ih;rw[if_pos (by omega),if_pos (by simp;omega),if_pos e];exact_mod_cast ih
   ·have hr:rc kk b+1≤b:=by omega
    have hm:=HE kk hr;have e3:nc kk (rc kk b+1)=nc kk (rc kk b)+1:=by rw[nc,if_pos (Fk kk b)]
    have:ck kk b<nc kk b:=by unfold ck;omega
    rw[if_neg (by omega),if_neg e];exact_mod_cast Lq (n:=n) hv p1 m (b+1) f a (by omega) (by omega) (by rw[nc,if_neg e];omega)
def F0 (n:Ar):List Bool:=CL n (AU (List.replicate (NN n) false) n.f2 true)
theorem F5 (n:Ar):(F0 n).length=NN n:=by unfold F0;rw[Td,Au,List.length_replicate]
theorem YO {n:Ar} (h:Rt n):Cb (F0 n)=true:=by
 have hf:=h.first;have hn:=h.nn;have hx:(AU (List.replicate (NN n) false) n.f2 true).length=NN n:=by rw[Au,List.length_replicate]
 have h1:AA (F0 n) n.f2=true:=by
  refine(GD h hx hf.1).2 ⟨n.f2,hf.1,?_,.refl _⟩;rw[Di _ _ _ hf.1 (by rw[List.length_replicate];omega) hf.1];simp
 have h2:n.f2.toNat<(F0 n).length:=by rw[F5];omega
 have h3:=Ae (F0 n) n.f2.toNat h2;rw[show ((n.f2.toNat:Nat):Int)=n.f2 by omega,h1]at h3;unfold Cb;rw[List.any_eq_true];exact⟨_,List.getElem_mem h2,h3.symm⟩
theorem YJ {n:Ar} (h:Rt n) {kk:Nat→ByteArray} (hk:CK n kk) (M:List Int):∃ v,(∀ c:Nat,c<256→AZ v (c:Int)=(ck kk c:Int))∧
 Xz 20000 n M=match Gg n (RP kk) 2000 20000 0 [F0 n] []with |some (R',N')=>some (AI.mk v N' (R'.map (MK M)),0)|none=>some (AI.mk (Vector.replicate 256 (0:Int)) [] [],6):=by
 obtain⟨v,v1,v2⟩:=hk.classes;refine⟨v,v2,?_⟩;have hf:=h.first;have hn:=h.nn;have hN:NN n≤8000:=by have:=h.n1;omega
 unfold Xz;rw[M9 n h.n2,Option.bind_some,h.rt,if_neg (by decide),Vq n h.n2,Option.bind_some,v1,Option.bind_some];have:=Lq (n:=n) v2 M 256 0 20000 [] (by omega) (by omega) rfl;rw[Int.natCast_zero,List.nil_append]at this;rw[this];unfold Jk;have e0:n.f0.toNat=NN n:=rfl;have hx:(AU (List.replicate (NN n) false) n.f2 true).length=NN n:=by rw[Au,List.length_replicate]
 rw[if_pos ⟨by omega,by omega,by omega⟩,e0,if_pos ⟨by omega,by rw[List.length_replicate];omega⟩,OX h,Option.bind_some,NT hx];have seen0:IB (NN n) [] []:=fun t ht=>rfl;obtain⟨sm',t1,t2⟩:=OP (N:=NN n) hN (n:=n) (M:=M) (rp:=(Fo kk 256 0).map Int.ofNat) (c:=v) (nx:=[]) (F5 n) seen0 (by simp);have ea:add [] (F0 n)=([F0 n],0):=by
  unfold add;rw[if_pos (YO h)];rfl
 rw[ea]at t1 t2;show (Xi 20000 (DX.mk n M ((Fo kk 256 0).map Int.ofNat) [] [] (AI.mk v [] (([]:List (List Bool)).map (MK M)))) (F0 n)).bind _=_;rw[t1,Option.bind_some];exact Sv h (kk:=kk) (RP kk) (fun b hb=>Zj kk hb) (Xc kk) 20000 0 [F0 n] [] sm' (by omega) (by omega) t2 (fun r hr=>by rw[List.mem_singleton.1 hr];exact F5 n) (by simp) rfl
def Zl (n:Ar) (bs:List Nat) (R:List (List Bool)) (i:Nat) (N:List (List Int)):Prop:=
 N.length=i∧∀ q:Nat,q<i→∃ s row,R[q]? =some s∧N[q]? =some row∧row.length=bs.length∧∀ c:Nat,c<bs.length→∃ t:Int,row[c]? =some t∧(Cb (CL n (MV n s (bs.getD c 0)))=false→t= -1)∧(Cb (CL n (MV n s (bs.getD c 0)))=true→∃ p:Nat,t=(p:Int)∧R[p]? =some (CL n (MV n s (bs.getD c 0))))
theorem VU (R:List (List Bool)) (t:List Bool):(Cb t=false→(add R t).2= -1)∧(Cb t=true→∃ p:Nat,(add R t).2=(p:Int)∧(add R t).1[p]? =some t):=by
 unfold add
 cases a:Cb t with
 | false=>exact⟨fun _=>rfl,fun h=>by cases h⟩
 | true=>
   refine⟨fun h=>(by cases h),fun _=>?_⟩;rw[if_pos rfl]
   cases e:ix R t with
   | some i=>exact⟨i,rfl,TI e⟩
   | none=>exact⟨R.length,rfl,by show (R++[t])[R.length]? =some t;simp⟩
theorem Nn (n:Ar) (s:List Bool) (all:List Nat):∀ (bs:List Nat) (j:Nat) (R:List (List Bool)) (a:List Int),all.drop j=bs→a.length=j→j≤all.length→
 (∀ c:Nat,c<j→∃ t:Int,a[c]? =some t∧(Cb (CL n (MV n s (all.getD c 0)))=false→t= -1)∧(Cb (CL n (MV n s (all.getD c 0)))=true→∃ p:Nat,t=(p:Int)∧R[p]? =some (CL n (MV n s (all.getD c 0)))))→
 (EV n s bs R a).2.length=all.length∧∀ c:Nat,c<all.length→∃ t:Int,(EV n s bs R a).2[c]? =some t∧(Cb (CL n (MV n s (all.getD c 0)))=false→t= -1)∧(Cb (CL n (MV n s (all.getD c 0)))=true→∃ p:Nat,t=(p:Int)∧(EV n s bs R a).1[p]? =some (CL n (MV n s (all.getD c 0))))
 | [],j,R,a,hd,ha,hj,h=>by
   have:all.length≤j:=by
    have:=congrArg List.length hd;rw[List.length_drop]at this;simp at this;omega
   exact⟨by show a.length=_;omega,fun c hc=>h c (by omega)⟩
 | b::bs,j,R,a,hd,ha,hj,h=>by
   have hj':j<all.length:=by
    have:=congrArg List.length hd;rw[List.length_drop]at this;simp at this;omega
   rw[List.drop_eq_getElem_cons hj']at hd;obtain⟨e1,e2⟩:=List.cons.inj hd;have eb:all.getD j 0=b:=by rw[List.getD,List.getElem?_eq_getElem hj', ←e1];rfl
   rw[EV];refine Nn n s all bs (j+1) _ _ e2 (by simp;omega) (by omega) fun c hc=>?_;by_cases k:c=j
   ·subst k;rw[eb];obtain⟨u1,u2⟩:=VU R (CL n (MV n s b));exact⟨_,by rw[←ha];simp,u1,u2⟩
   ·obtain⟨t,t1,t2,t3⟩:=h c (by omega);refine⟨t,by rw[List.getElem?_append_left (by omega)];exact t1,t2,fun hh=>?_⟩;obtain⟨p,p1,p2⟩:=t3 hh;exact⟨p,p1,L3 p2⟩
theorem ID (n:Ar) (bs:List Nat) (B:Nat):∀ (f i:Nat) (R:List (List Bool)) (N:List (List Int)) (R':List (List Bool)) (N':List (List Int)),i≤R.length→Zl n bs R i N→(∀ r∈R,r.length=NN n)→R.length≤B+bs.length→Gg n bs B f i R N=some (R',N')→Zl n bs R' R'.length N'∧(∀ x:Nat,∀ r,R[x]? =some r→R'[x]? =some r)∧(∀ r∈R',r.length=NN n)∧R'.length≤B+bs.length
 | 0,_,_,_,_,_,_,_,_,_,h=>by cases h
 | f+1,i,R,N,R',N',hi,ht,hr,hB,h=>by
   rw[Gg]at h;split at h
   ·next a=>
    split at h
    ·cases h
    ·next b=>
     have hg:R[i]? =some (R.getD i []):=by rw[List.getD,List.getElem?_eq_getElem a];rfl
     have hrl:=Jh n (R.getD i []) bs R [];obtain⟨w1,w2⟩:=Nn n (R.getD i []) bs bs 0 R [] rfl rfl (by omega) (fun c hc=>by omega);have hgr:=fun {x t}=>OG (i:=x) (t:=t) n (R.getD i []) bs R [];have nt:Zl n bs (EV n (R.getD i []) bs R []).1 (i+1) (N++[(EV n (R.getD i []) bs R []).2]):=by
      refine⟨by simp;exact ht.1,fun q hq=>?_⟩;by_cases k:q=i
      ·subst k;exact⟨_,_,hgr hg,by rw[←ht.1];simp,w1,w2⟩
      ·obtain⟨s,row,r1,r2,r3,r4⟩:=ht.2 q (by omega);refine⟨s,row,hgr r1,by rw[List.getElem?_append_left (by have:=ht.1;omega)];exact r2,r3,fun c hc=>?_⟩;obtain⟨t,t1,t2,t3⟩:=r4 c hc;refine⟨t,t1,t2,fun hh=>?_⟩;obtain⟨p,p1,p2⟩:=t3 hh;exact⟨p,p1,hgr p2⟩
     obtain⟨k1,k2,k3,k4⟩:=ID n bs B f (i+1) _ _ R' N' (by omega) nt (Jj n _ bs R [] hr) (by omega) h;exact⟨k1,fun x r hx=>k2 x r (hgr hx),k3,k4⟩
   ·next a=>
    cases h;obtain rfl:i=R.length:=by omega
    exact⟨ht,fun x r hx=>hx,hr,hB⟩
def ED (x:Int):Int:=if x=0∨x=1 then 0 else if x=4∨x=5∨x=6 then 1 else if x=2∨x=3 then 2 else -1
theorem K6 (x:Int):U0 20000 x=some (ED x):=Sa x
theorem VT (x:Int): -1≤ED x∧ED x≤2:=by unfold ED;split<;>(try split)<;>(try split)<;>omega
abbrev Hh (q:Nat) (E:List AR) (x y:Int):BT:=BT.mk (Ar.mk (q:Int) E x y)
theorem CG {q:Nat} {E:List AR} {x y a b:Int} (h:E.length≤100000):IR 20000 (Hh q E x y) a b=some (Hh q (E++[AR.mk a b (Vector.replicate 4 0) true]) x y):=by
 unfold IR;rw[if_pos (by simp;omega)]
theorem Uk {q:Nat} {E:List AR} {x y:Int} (h:q≤100000):Yt 20000 (Hh q E x y)=some (A4.mk (q:Int) ((q+1:Nat):Int),Hh (q+2) E x y):=by
 have st:∀ q:Nat,q≤200000→OA 20000 (Hh q E x y)=some ((q:Int),Hh (q+1) E x y):=by
  intro q hq;unfold OA;show some (AG (AG ((q:Int)+1) -1),BT.mk (Ar.mk (AG ((q:Int)+1)) E x y))=_;rw[CP (x:=(q:Int)+1) (by omega) (by omega),CP (by omega) (by omega),show (q:Int)+1-1=(q:Int)by omega];rfl
 unfold Yt;show (OA 20000 (Hh q E x y)).bind _=_;rw[st q (by omega),Option.bind_some];show (OA 20000 (Hh (q+1) E x y)).bind _=_;rw[st (q+1) (by omega),Option.bind_some]
def Yj (q:Nat) (E:List AR):Prop:=∀ e∈E,0≤e.f0∧e.f0<(q:Int)∧0≤e.f1∧e.f1<(q:Int)∧U e.f2
def KH (q:Nat) (st:List A4):Prop:=∀ e∈st,0≤e.f0∧e.f0<(q:Int)∧0≤e.f1∧e.f1<(q:Int)
theorem Yj.up {q q':Nat} {E:List AR} (h:Yj q E) (hq:q≤q'):Yj q' E:=fun e he=>by
 obtain⟨a,b,c,d,u⟩:=h e he;exact⟨a,by omega,c,by omega,u⟩
theorem Yj.add {q:Nat} {E:List AR} (h:Yj q E) {a b:Int} {v:Vector Int 4} {f:Bool} (ha:0≤a∧a<(q:Int)) (hb:0≤b∧b<(q:Int)) (hv:U v):Yj q (E++[AR.mk a b v f]):=fun e he=>by
 rcases List.mem_append.1 he with he|he
 ·exact h e he
 ·rw[List.mem_singleton.1 he];exact⟨ha.1,ha.2,hb.1,hb.2,hv⟩
def fe (a b:Int):AR:=AR.mk a b (Vector.replicate 4 (0:Int)) true
def NE (q:Nat) (p:AE) (st:List A4):List AR:=
 let A:=AA st ((st.length-2:Nat):Int)
 let B:=AA st ((st.length-1:Nat):Int)
 if p.f0=0 then [fe (q:Int) ((q+1:Nat):Int)]
 else if p.f0=1 then [AR.mk (q:Int) ((q+1:Nat):Int) p.f1 false]
 else if p.f0=2 then [fe (q:Int) A.f0,fe A.f1 B.f0,fe B.f1 ((q+1:Nat):Int)]
 else if p.f0=3 then [fe (q:Int) A.f0,fe A.f1 ((q+1:Nat):Int),fe (q:Int) B.f0,fe B.f1 ((q+1:Nat):Int)]
 else [fe (q:Int) B.f0,fe B.f1 ((q+1:Nat):Int)]++(if p.f0≠6 then [fe B.f1 B.f0]else [])++(if p.f0≠5 then [fe (q:Int) ((q+1:Nat):Int)]else [])
theorem WD {q:Nat} {x y:Int} {p:AE} {st:List A4} {E':List AR} (t5:A4×BT) (h5:t5.1=A4.mk (q:Int) ((q+1:Nat):Int)) (hk:0≤ED p.f0∧(ED p.f0).toNat≤st.length) (hs:st.length≤10000):
 Dy 20000 p st t5 ((q+2:Nat):Int) E' x y=some (st.take (st.length - (ED p.f0).toNat)++[A4.mk (q:Int) ((q+1:Nat):Int)],Hh (q+2) E' x y):=by
 unfold Dy;have ew:AG ((st.length:Int) -ED p.f0)=((st.length - (ED p.f0).toNat:Nat):Int):=by
  rw[CP (by omega) (by omega)];omega
 rw[K6,Option.bind_some,ew,if_pos ⟨by omega,by omega⟩,Int.toNat_natCast,h5,if_pos (by simp;omega)]
theorem Xy {q:Nat} {x y:Int} {p:AE} {st:List A4} {E:List AR} (hq:q≤10000) (hk:0≤ED p.f0∧(ED p.f0).toNat≤st.length) (hs:st.length≤10000) (hz:E.length≤10000):
 Yh 20000 (Hh q E x y) p st=some (st.take (st.length - (ED p.f0).toNat)++[A4.mk (q:Int) ((q+1:Nat):Int)],Hh (q+2) (E++NE q p st) x y):=by
 generalize hR:some (st.take (st.length - (ED p.f0).toNat)++[A4.mk (q:Int) ((q+1:Nat):Int)],Hh (q+2) (E++NE q p st) x y)=R;unfold Yh;show (Yt 20000 (Hh q E x y)).bind _=_;rw[Uk (by omega),Option.bind_some];generalize ht5:(A4.mk (q:Int) ((q+1:Nat):Int),Hh (q+2) E x y)=t5;have e51:t5.1=A4.mk (q:Int) ((q+1:Nat):Int):=by rw[←ht5]
 have e52:t5.2=Hh (q+2) E x y:=by rw[←ht5]
 have fin:∀ E',E'=E++NE q p st→Dy 20000 p st t5 ((q+2:Nat):Int) E' x y=R:=fun E' h=>by
  rw[WD t5 e51 hk hs,h,hR]
 rw[e52,e51];by_cases k0:p.f0=0
 ·rw[if_pos k0];show (IR 20000 (Hh (q+2) E x y) _ _).bind _=_;rw[CG (by omega),Option.bind_some];exact fin _ (by unfold NE;rw[if_pos k0];rfl)
 ·rw[if_neg k0];by_cases k1:p.f0=1
  ·rw[if_pos k1];show (if(E++[AR.mk (q:Int) ((q+1:Nat):Int) p.f1 false]).length*56≤140737488355328 then _ else _)=_;rw[if_pos (by simp;omega)];exact fin _ (by unfold NE;rw[if_neg k0,if_pos k1])
  ·rw[if_neg k1];by_cases k2:p.f0=2
   ·have et:ED p.f0=2:=by rw[k2];rfl
    have hl2:2≤st.length:=by rw[et]at hk;exact hk.2
    have w1:AG ((st.length:Int) -2)=((st.length-2:Nat):Int):=by rw[CP (by omega) (by omega)];omega
    have w2:AG ((st.length:Int) -1)=((st.length-1:Nat):Int):=by rw[CP (by omega) (by omega)];omega
    rw[if_pos k2,w1,w2,if_pos ⟨by omega,by omega⟩,if_pos ⟨by omega,by omega⟩];show (IR 20000 (Hh (q+2) E x y) _ _).bind _=_;rw[CG (by omega),Option.bind_some];show (IR 20000 (Hh (q+2) _ x y) _ _).bind _=_;rw[CG (by simp;omega),Option.bind_some];show (IR 20000 (Hh (q+2) _ x y) _ _).bind _=_;rw[CG (by simp;omega),Option.bind_some];exact fin _ (by unfold NE;rw[if_neg k0,if_neg k1,if_pos k2];simp[fe])
   ·rw[if_neg k2];by_cases k3:p.f0=3
    ·have et:ED p.f0=2:=by rw[k3];rfl
     have hl2:2≤st.length:=by rw[et]at hk;exact hk.2
     have w1:AG ((st.length:Int) -2)=((st.length-2:Nat):Int):=by rw[CP (by omega) (by omega)];omega
     have en:(((st.length - (((st.length-2:Nat):Int)).toNat:Nat):Nat):Int)=2:=by rw[Int.toNat_natCast];omega
     have i1:((st.length-2:Nat):Int)+0=((st.length-2:Nat):Int):=by omega
     have i2:((st.length-2:Nat):Int)+1=((st.length-1:Nat):Int):=by omega
     have u1:AG ((0:Int)+1)=1:=CP (by omega) (by omega);have u2:AG ((1:Int)+1)=2:=CP (by omega) (by omega);rw[if_pos k3,w1,if_pos ⟨by omega,by omega⟩];show DN 20000 p st t5 (19997+1+1+1) ((q+2:Nat):Int) E x y (0:Int)=_;rw[DN.eq_2,w1,en,if_pos (by decide),if_pos (by decide),i1,e51];show (IR 20000 (Hh (q+2) E x y) _ _).bind _=_;rw[CG (by omega),Option.bind_some];show (IR 20000 (Hh (q+2) _ x y) _ _).bind _=_;rw[CG (by simp;omega),Option.bind_some,u1];show DN 20000 p st t5 (19997+1+1) ((q+2:Nat):Int) _ x y (1:Int)=_;rw[DN.eq_2,w1,en,if_pos (by decide),if_pos (by decide),i2,e51];show (IR 20000 (Hh (q+2) _ x y) _ _).bind _=_;rw[CG (by simp;omega),Option.bind_some];show (IR 20000 (Hh (q+2) _ x y) _ _).bind _=_;rw[CG (by simp;omega),Option.bind_some,u2];show DN 20000 p st t5 (19997+1) ((q+2:Nat):Int) _ x y (2:Int)=_;rw[DN.eq_2,w1,en,if_neg (by decide)];exact fin _ (by unfold NE;rw[if_neg k0,if_neg k1,if_neg k2,if_pos k3];simp[fe])
    ·have et:1≤ED p.f0:=by
      have:=hk.1;unfold ED at this⊢
      rw[if_neg (by omega)]at this⊢
      split
      ·omega
      ·rw[if_neg (by assumption),if_neg (by omega)]at this;omega
     have w2:AG ((st.length:Int) -1)=((st.length-1:Nat):Int):=by rw[CP (by omega) (by omega)];omega
     rw[if_neg k3,w2,if_pos ⟨by omega,by omega⟩];show (IR 20000 (Hh (q+2) E x y) _ _).bind _=_;rw[CG (by omega),Option.bind_some];show (IR 20000 (Hh (q+2) _ x y) _ _).bind _=_;rw[CG (by simp;omega),Option.bind_some];have fin2:∀ E2:List AR,E2.length≤E.length+3→E2++(if p.f0≠5 then [fe (q:Int) ((q+1:Nat):Int)]else [])=E++NE q p st→H8 20000 p st t5 ((q+2:Nat):Int) E2 x y=R:=by
      intro E2 l2 o2;unfold H8;rw[e51];by_cases k5:p.f0≠5
      ·rw[if_pos k5]at o2⊢
       show (IR 20000 (Hh (q+2) E2 x y) _ _).bind _=_;rw[CG (by omega),Option.bind_some];exact fin _ o2
      ·rw[if_neg k5]at o2⊢
       rw[List.append_nil]at o2;exact fin _ o2
     by_cases k6:p.f0≠6
     ·rw[if_pos k6];show (IR 20000 (Hh (q+2) _ x y) _ _).bind _=_;rw[CG (by simp;omega),Option.bind_some];exact fin2 _ (by simp) (by unfold NE;rw[if_neg k0,if_neg k1,if_neg k2,if_neg k3,if_pos k6];simp[fe])
     ·rw[if_neg k6];exact fin2 _ (by simp) (by unfold NE;rw[if_neg k0,if_neg k1,if_neg k2,if_neg k3,if_neg k6];simp[fe])
def QM (t:Rx) (q:Nat):Nat:=q+2*((Ac t).length-1)
def qb (a:Rx) (q:Nat):Nat:=q+2*(Ac a).length
def gI (t:Rx) (q:Nat):Int:=(QM t q:Int)
def gO (t:Rx) (q:Nat):Int:=((QM t q+1:Nat):Int)
def gr:Rx→Nat→List AR
 | .non,q=>[fe (gI .non q) (gO .non q)]
 | .one s,q=>[AR.mk (gI (.one s) q) (gO (.one s) q) s false]
 | .cat a b,q=>gr a q++gr b (qb a q)++[fe (gI (.cat a b) q) (gI a q),fe (gO a q) (gI b (qb a q)),fe (gO b (qb a q)) (gO (.cat a b) q)]
 | .alt a b,q=>gr a q++gr b (qb a q)++[fe (gI (.alt a b) q) (gI a q),fe (gO a q) (gO (.alt a b) q),fe (gI (.alt a b) q) (gI b (qb a q)),fe (gO b (qb a q)) (gO (.alt a b) q)]
 | .un k a,q=>gr a q++([fe (gI (.un k a) q) (gI a q),fe (gO a q) (gO (.un k a) q)]++(if k≠6 then [fe (gO a q) (gI a q)]else [])++(if k≠5 then [fe (gI (.un k a) q) (gO (.un k a) q)]else []))
def gP (t:Rx) (q:Nat):A4:=A4.mk (gI t q) (gO t q)
theorem DF:∀ (t:Rx) (q:Nat),(gr t q).length≤4*(Ac t).length
 | .non,q=>by simp[gr,Ac]
 | .one s,q=>by simp[gr,Ac]
 | .cat a b,q=>by have:=DF a q;have:=DF b (qb a q);simp[gr,Ac];omega
 | .alt a b,q=>by have:=DF a q;have:=DF b (qb a q);simp[gr,Ac];omega
 | .un k a,q=>by
   have:=DF a q;have h1:(if k≠6 then [fe (gO a q) (gI a q)]else []).length≤1:=by split<;>simp
   have h2:(if k≠5 then [fe (gI (.un k a) q) (gO (.un k a) q)]else []).length≤1:=by split<;>simp
   simp only[gr,Ac,List.length_append,List.length_cons,List.length_nil];omega
theorem bv {l pre post:List AE} {p:AE} (e:l=pre++p::post) (hl:l.length≤400) {x y:Int} {st:List A4} {E:List AR} (hk:0≤ED p.f0∧(ED p.f0).toNat≤st.length) (hs:st.length≤10000) (hz:E.length≤10000) (f:Nat):
 DL 20000 l (f+1) ((2*pre.length:Nat):Int) E x y st (pre.length:Int)=DL 20000 l f ((2*(pre.length+1):Nat):Int) (E++NE (2*pre.length) p st) x y (st.take (st.length - (ED p.f0).toNat)++[A4.mk ((2*pre.length:Nat):Int) ((2*pre.length+1:Nat):Int)]) ((pre.length+1:Nat):Int):=by
 have hlt:pre.length<l.length:=by rw[e];simp
 have hg:AA l (pre.length:Int)=p:=by rw[e];exact GW pre p post
 rw[DL.eq_2,if_pos (by omega),if_pos ⟨by omega,by omega⟩,hg];show (Yh 20000 (Hh (2*pre.length) E x y) p st).bind _=_;rw[Xy (by omega) hk hs hz,Option.bind_some,CP (by omega) (by omega)];rfl
theorem Xt {l pre post:List AE} {p:AE} (e:l=pre++p::post) (hl:l.length≤400) {n:Nat} (hn:n≤8000) (hk:0≤ED p.f0∧(ED p.f0).toNat≤n) (hv:p.f0=1↔p.f1≠VZ) (f:Nat):
 CX 20000 l (f+1) (n:Int) (pre.length:Int)=CX 20000 l f ((n+1 - (ED p.f0).toNat:Nat):Int) ((pre.length+1:Nat):Int):=by
 have hlt:pre.length<l.length:=by rw[e];simp
 have hg:AA l (pre.length:Int)=p:=by rw[e];exact GW pre p post
 have hr:=VT p.f0;have e0:Zw 20000 p.f1=some (decide (p.f1=VZ)):=rfl;have e1:(decide (p.f0=1)==decide (p.f1=VZ))=false:=by
  by_cases h:p.f0=1
  ·rw[decide_eq_true h,decide_eq_false (hv.1 h)];rfl
  ·rw[decide_eq_false h,decide_eq_true (Classical.not_not.1 fun k=>h (hv.2 k))];rfl
 rw[CX.eq_2,if_pos (by omega),if_pos ⟨by omega,by omega⟩,hg,K6,Option.bind_some,if_neg (by omega),if_neg (by omega),e0,Option.bind_some,e1,Option.bind_some,if_neg (by simp),CP (x:=(1:Int) -ED p.f0) (by omega) (by omega),CP (by omega) (by omega),CP (by omega) (by omega)];have e2:(n:Int)+(1-ED p.f0)=((n+1 - (ED p.f0).toNat:Nat):Int):=by omega
 rw[e2];rfl
theorem YV {k:Int} (h:4≤k) (h2:k≤6):ED k=1:=by unfold ED;rw[if_neg (by omega),if_pos (by omega)]
theorem cW (s0:List A4) (A:A4):AA (s0++[A]) (((s0++[A]).length-1:Nat):Int)=A:=by
 rw[Ae _ _ (by simp)];simp
theorem cq (s0:List A4) (A B:A4):AA (s0++[A]++[B]) (((s0++[A]++[B]).length-2:Nat):Int)=A:=by
 rw[Ae _ _ (by simp)];simp
def TL (l:List AE) (x y:Int) (t:Rx):Prop:=∀ (pre post:List AE),l=pre++Ac t++post→
 (∀ (f n:Nat),n≤pre.length→CX 20000 l (f+(Ac t).length) (n:Int) (pre.length:Int)=CX 20000 l f ((n+1:Nat):Int) ((pre.length+(Ac t).length:Nat):Int))∧
 (∀ (f:Nat) (E:List AR) (st:List A4),st.length≤pre.length→E.length≤4*pre.length→
   DL 20000 l (f+(Ac t).length) ((2*pre.length:Nat):Int) E x y st (pre.length:Int)=DL 20000 l f ((2*(pre.length+(Ac t).length):Nat):Int) (E++gr t (2*pre.length)) x y (st++[gP t (2*pre.length)]) ((pre.length+(Ac t).length:Nat):Int))
theorem TL.leaf {l:List AE} (hl:l.length≤400) {x y:Int} {t:Rx} {p:AE} (hs:Ac t=[p]) (hk:ED p.f0=0) (hv:p.f0=1↔p.f1≠VZ) (hg:∀ q s0,gr t q=NE q p s0):TL l x y t:=by
 intro pre post e;have e':l=pre++p::post:=by rw[e,hs];simp
 have hp:pre.length<l.length:=by rw[e'];simp
 refine⟨fun f n hn=>?_,fun f E st h1 hE=>?_⟩
 ·have:=Xt e' hl (n:=n) (by omega) (by rw[hk];simp) hv f;rw[hs];rw[hk]at this;exact this
 ·have:=bv (x:=x) (y:=y) e' hl (st:=st) (E:=E) (by rw[hk];simp) (by omega) (by omega) f;rw[hs];rw[hk,show st.length - (0:Int).toNat=st.length from rfl,List.take_length, ←hg]at this;have g:gP t (2*pre.length)=A4.mk ((2*pre.length:Nat):Int) ((2*pre.length+1:Nat):Int):=by
   unfold gP gI gO QM;rw[hs];rfl
  rw[g];exact this
theorem TL.two {l:List AE} (hl:l.length≤400) {x y:Int} {a b t:Rx} {k:Int} (hk:ED k=2) (hk1:k≠1) (hs:Ac t=Ac a++Ac b++[AE.mk k VZ]) (hg:∀ q s0,gr t q=gr a q++gr b (qb a q)++NE (QM t q) (AE.mk k VZ) (s0++[gP a q]++[gP b (qb a q)])) (ha:TL l x y a) (hb:TL l x y b):TL l x y t:=by
 intro pre post e;have ea:l=pre++Ac a++(Ac b++[AE.mk k VZ]++post):=by rw[e,hs];simp
 have eb:l=(pre++Ac a)++Ac b++([AE.mk k VZ]++post):=by rw[e,hs];simp
 have ep:l=(pre++Ac a++Ac b)++AE.mk k VZ::post:=by rw[e,hs];simp
 have la:(pre++Ac a).length=pre.length+(Ac a).length:=by simp
 have lb:(pre++Ac a++Ac b).length=pre.length+(Ac a).length+(Ac b).length:=by simp;omega
 have lt:(Ac t).length=(Ac a).length+(Ac b).length+1:=by rw[hs];simp;omega
 have hp:(pre++Ac a++Ac b).length<l.length:=by rw[ep];simp
 have pa:=Bp a;have pb:=Bp b;refine⟨fun f n hn=>?_,fun f E st h1 hE=>?_⟩
 ·have q1:=(ha pre _ ea).1 (f+1+(Ac b).length) n hn;have q2:=(hb (pre++Ac a) _ eb).1 (f+1) (n+1) (by omega);have q3:=Xt ep hl (n:=n+1+1) (by omega) (by show 0≤ED k∧(ED k).toNat≤_;rw[hk];exact⟨by decide,by show 2≤n+1+1;omega⟩) (by simp[hk1]) f;rw[la]at q2;rw[lb]at q3;rw[lt,show f+((Ac a).length+(Ac b).length+1)=f+1+(Ac b).length+(Ac a).length by omega,q1,q2,q3];show CX 20000 l f ((n+1+1+1 - (ED k).toNat:Nat):Int) _=_;rw[hk,show n+1+1+1 - (2:Int).toNat=n+1 from by show n+1+1+1-2=n+1;omega,show pre.length+((Ac a).length+(Ac b).length+1)=pre.length+(Ac a).length+(Ac b).length+1 by omega]
 ·have ga:=DF a (2*pre.length);have gb:=DF b (qb a (2*pre.length));have q1:=(ha pre _ ea).2 (f+1+(Ac b).length) E st h1 hE;have q2:=(hb (pre++Ac a) _ eb).2 (f+1) (E++gr a (2*pre.length)) (st++[gP a (2*pre.length)]) (by simp;omega) (by simp;omega);rw[la,show 2*(pre.length+(Ac a).length)=qb a (2*pre.length)by unfold qb;omega]at q2;have q3:=bv (x:=x) (y:=y) ep hl (st:=st++[gP a (2*pre.length)]++[gP b (qb a (2*pre.length))]) (E:=E++gr a (2*pre.length)++gr b (qb a (2*pre.length))) (by show 0≤ED k∧(ED k).toNat≤_;rw[hk];exact⟨by decide,by simp⟩) (by simp;omega) (by simp;omega) f;rw[lb]at q3;have gq:QM t (2*pre.length)=2*(pre.length+(Ac a).length+(Ac b).length):=by unfold QM;rw[lt];omega
  rw[lt,show f+((Ac a).length+(Ac b).length+1)=f+1+(Ac b).length+(Ac a).length by omega,q1,show 2*(pre.length+(Ac a).length)=qb a (2*pre.length)by unfold qb;omega,q2,q3,hg _ st,gq];have tk:(st++[gP a (2*pre.length)]++[gP b (qb a (2*pre.length))]).take ((st++[gP a (2*pre.length)]++[gP b (qb a (2*pre.length))]).length - (ED (AE.mk k VZ).f0).toNat)=st:=by
   show (st++[gP a (2*pre.length)]++[gP b (qb a (2*pre.length))]).take ((st++[gP a (2*pre.length)]++[gP b (qb a (2*pre.length))]).length - (ED k).toNat)=st;rw[hk,List.append_assoc,show (st++([gP a (2*pre.length)]++[gP b (qb a (2*pre.length))])).length - (2:Int).toNat=st.length by simp];simp
  have g:gP t (2*pre.length)=A4.mk ((2*(pre.length+(Ac a).length+(Ac b).length):Nat):Int) ((2*(pre.length+(Ac a).length+(Ac b).length)+1:Nat):Int):=by
   unfold gP gI gO;rw[gq]
  rw[tk,g,show pre.length+((Ac a).length+(Ac b).length+1)=pre.length+(Ac a).length+(Ac b).length+1 by omega];simp only[List.append_assoc]
theorem TL.un {l:List AE} (hl:l.length≤400) {x y:Int} {a:Rx} {k:Int} (h4:4≤k) (h6:k≤6) (ha:TL l x y a):TL l x y (.un k a):=by
 intro pre post e;have hk:=YV h4 h6;have ea:l=pre++Ac a++([AE.mk k VZ]++post):=by rw[e];simp[Ac]
 have ep:l=(pre++Ac a)++AE.mk k VZ::post:=by rw[e];simp[Ac]
 have la:(pre++Ac a).length=pre.length+(Ac a).length:=by simp
 have lt:(Ac (.un k a)).length=(Ac a).length+1:=by simp[Ac]
 have hp:(pre++Ac a).length<l.length:=by rw[ep];simp
 have pa:=Bp a;refine⟨fun f n hn=>?_,fun f E st h1 hE=>?_⟩
 ·have q1:=(ha pre _ ea).1 (f+1) n hn;have q3:=Xt ep hl (n:=n+1) (by omega) (by show 0≤ED k∧(ED k).toNat≤_;rw[hk];exact⟨by decide,by show 1≤n+1;omega⟩) (by simp;omega) f;rw[la]at q3;rw[lt,show f+((Ac a).length+1)=f+1+(Ac a).length by omega,q1,q3];show CX 20000 l f ((n+1+1 - (ED k).toNat:Nat):Int) _=_;rw[hk];rfl
 ·have ga:=DF a (2*pre.length);have q1:=(ha pre _ ea).2 (f+1) E st h1 hE;have q3:=bv (x:=x) (y:=y) ep hl (st:=st++[gP a (2*pre.length)]) (E:=E++gr a (2*pre.length)) (by show 0≤ED k∧(ED k).toNat≤_;rw[hk];exact⟨by decide,by simp⟩) (by simp;omega) (by simp;omega) f;rw[la]at q3;have gq:QM (.un k a) (2*pre.length)=2*(pre.length+(Ac a).length):=by unfold QM;rw[lt];omega
  have tk:(st++[gP a (2*pre.length)]).take ((st++[gP a (2*pre.length)]).length - (ED (AE.mk k VZ).f0).toNat)=st:=by
   show (st++[gP a (2*pre.length)]).take ((st++[gP a (2*pre.length)]).length - (ED k).toNat)=st;rw[hk,show (st++[gP a (2*pre.length)]).length - (1:Int).toNat=st.length by simp];simp
  have g:gP (.un k a) (2*pre.length)=A4.mk ((2*(pre.length+(Ac a).length):Nat):Int) ((2*(pre.length+(Ac a).length)+1:Nat):Int):=by
   unfold gP gI gO;rw[gq]
  have ne:NE (2*(pre.length+(Ac a).length)) (AE.mk k VZ) (st++[gP a (2*pre.length)])=([fe (gI (.un k a) (2*pre.length)) (gI a (2*pre.length)),fe (gO a (2*pre.length)) (gO (.un k a) (2*pre.length))]++(if k≠6 then [fe (gO a (2*pre.length)) (gI a (2*pre.length))]else [])++(if k≠5 then [fe (gI (.un k a) (2*pre.length)) (gO (.un k a) (2*pre.length))]else [])):=by
   unfold NE;rw[cW];show (if k=0 then _ else if k=1 then _ else if k=2 then _ else if k=3 then _ else _)=_;rw[if_neg (by omega),if_neg (by omega),if_neg (by omega),if_neg (by omega)];unfold gI gO;rw[gq];rfl
  rw[lt,show f+((Ac a).length+1)=f+1+(Ac a).length by omega,q1,q3,tk,g,ne];simp only[gr,List.append_assoc];rfl
theorem Hq {l:List AE} (hl:l.length≤400) (x y:Int):∀ t:Rx,HC t→TL l x y t
 | .non,_=>TL.leaf hl rfl rfl (by simp) fun q s0=>rfl
 | .one v,h=>TL.leaf hl rfl rfl ⟨fun _=>h.2,fun _=>rfl⟩ fun q s0=>rfl
 | .cat a b,h=>TL.two hl (k:=2) rfl (by decide) rfl (fun q s0=>by
    unfold NE;rw[cW,cq];rfl) (Hq hl x y a h.1) (Hq hl x y b h.2)
 | .alt a b,h=>TL.two hl (k:=3) rfl (by decide) rfl (fun q s0=>by
    unfold NE;rw[cW,cq];rfl) (Hq hl x y a h.1) (Hq hl x y b h.2)
 | .un k a,h=>TL.un hl h.1 h.2.1 (Hq hl x y a h.2.2)
def gN (t:Rx):Ar:=Ar.mk ((2*(Ac t).length:Nat):Int) (gr t 0) (gI t 0) (gO t 0)
theorem Qg {t:Rx} (ht:HC t) (hz:(Ac t).length≤400):Yv 20000 (Ac t)=some (gN t,0):=by
 obtain⟨h1,h2⟩:=Hq hz 0 0 t ht [] [] (by simp);have c:ah 20000 (Ac t)=some 0:=by
  unfold ah;have:=h1 (20000 - (Ac t).length) 0 (by simp);rw[show 20000 - (Ac t).length+(Ac t).length=20000 by omega]at this;rw[if_neg (by omega)];refine this.trans ?_;rw[show 20000 - (Ac t).length=19999 - (Ac t).length+1 by omega,CX.eq_2,if_neg (by simp)];rfl
 unfold Yv;rw[c,Option.bind_some,if_neg (by simp)];have:=h2 (20000 - (Ac t).length) [] [] (by simp) (by simp);rw[show 20000 - (Ac t).length+(Ac t).length=20000 by omega]at this;refine this.trans ?_;rw[show 20000 - (Ac t).length=19999 - (Ac t).length+1 by omega,DL.eq_2,if_neg (by simp)];unfold gN My;simp[gP,AA]
theorem HJ (t:Rx) (q:Nat):(q:Int)≤gI t q∧gO t q=gI t q+1∧gI t q+2=(qb t q:Int)∧q+2≤qb t q:=by have:=Bp t;unfold gO gI QM qb;omega
theorem SN (a b:Rx) (q:Nat):gI (.cat a b) q=(qb b (qb a q):Int):=by unfold gI QM qb;simp[Ac];omega
theorem Ua (a b:Rx) (q:Nat):gI (.alt a b) q=(qb b (qb a q):Int):=by unfold gI QM qb;simp[Ac];omega
theorem WI (k:Int) (a:Rx) (q:Nat):gI (.un k a) q=(qb a q:Int):=by unfold gI QM qb;simp[Ac]
def ER (q r:Nat) (e:AR):Prop:=(q:Int)≤e.f0∧e.f0<(r:Int)∧(q:Int)≤e.f1∧e.f1<(r:Int)∧U e.f2
theorem ER.fe {q r:Nat} {a b:Int} (h1:(q:Int)≤a∧a<(r:Int)) (h2:(q:Int)≤b∧b<(r:Int)):ER q r (Go.Avl.T8.fe a b):=⟨h1.1,h1.2,h2.1,h2.2,GI⟩
theorem ER.up {q r q' r':Nat} {e:AR} (h:ER q r e) (h1:q'≤q) (h2:r≤r'):ER q' r' e:=by
 obtain⟨a,b,c,d,u⟩:=h;exact⟨by omega,by omega,by omega,by omega,u⟩
theorem Sk {k:Int} {a:Rx} {q:Nat} {e:AR} (h:e∈gr (.un k a) q):e∈gr a q∨e=fe (gI (.un k a) q) (gI a q)∨e=fe (gO a q) (gO (.un k a) q)∨(k≠6∧e=fe (gO a q) (gI a q))∨(k≠5∧e=fe (gI (.un k a) q) (gO (.un k a) q)):=by
 simp only[gr,List.mem_append,List.mem_cons,List.not_mem_nil,or_false]at h;rcases h with h| ((h|h)|h)|h
 ·exact .inl h
 ·exact .inr (.inl h)
 ·exact .inr (.inr (.inl h))
 ·by_cases c:k≠6
  ·rw[if_pos c]at h;exact .inr (.inr (.inr (.inl ⟨c,List.mem_singleton.1 h⟩)))
  ·rw[if_neg c]at h;cases h
 ·by_cases c:k≠5
  ·rw[if_pos c]at h;exact .inr (.inr (.inr (.inr ⟨c,List.mem_singleton.1 h⟩)))
  ·rw[if_neg c]at h;cases h
theorem Bs:∀ (t:Rx) (q:Nat),HC t→∀ e∈gr t q,ER q (qb t q) e
 | .non,q,_,e,h=>by
   have g:=HJ .non q;rw[show e=_ from List.mem_singleton.1 h];exact .fe ⟨by omega,by omega⟩ ⟨by omega,by omega⟩
 | .one s,q,ht,e,h=>by
   have g:=HJ (.one s) q;rw[show e=_ from List.mem_singleton.1 h];exact⟨by show _≤gI _ _;omega,by show gI _ _<_;omega,by show _≤gO _ _;omega,by show gO _ _<_;omega,ht.1⟩
 | .cat a b,q,ht,e,h=>by
   have g:=HJ (.cat a b) q;have g1:=SN a b q;have ga:=HJ a q;have gb:=HJ b (qb a q);simp only[gr,List.mem_append,List.mem_cons,List.not_mem_nil,or_false]at h;rcases h with(h|h)|h|h|h
   ·exact(Bs a q ht.1 e h).up (Nat.le_refl _) (by omega)
   ·exact(Bs b _ ht.2 e h).up (by omega) (by omega)
   all_goals rw[h];exact .fe ⟨by omega,by omega⟩ ⟨by omega,by omega⟩
 | .alt a b,q,ht,e,h=>by
   have g:=HJ (.alt a b) q;have g1:=Ua a b q;have ga:=HJ a q;have gb:=HJ b (qb a q);simp only[gr,List.mem_append,List.mem_cons,List.not_mem_nil,or_false]at h;rcases h with(h|h)|h|h|h|h
   ·exact(Bs a q ht.1 e h).up (Nat.le_refl _) (by omega)
   ·exact(Bs b _ ht.2 e h).up (by omega) (by omega)
   all_goals rw[h];exact .fe ⟨by omega,by omega⟩ ⟨by omega,by omega⟩
 | .un k a,q,ht,e,h=>by
   have g:=HJ (.un k a) q;have g1:=WI k a q;have ga:=HJ a q;rcases Sk h with h|h|h|⟨_,h⟩|⟨_,h⟩
   ·exact(Bs a q ht.2.2 e h).up (Nat.le_refl _) (by omega)
   all_goals rw[h];exact .fe ⟨by omega,by omega⟩ ⟨by omega,by omega⟩
inductive PW (l:List AR):Int→List Nat→Int→Prop
 | nil (p:Int):PW l p [] p
 | eps {e:AR} {w:List Nat} {r:Int}:e∈l→e.f3=true→PW l e.f1 w r→PW l e.f0 w r
 | byte {e:AR} {b:Nat} {w:List Nat} {r:Int}:e∈l→e.f3=false→tb e.f2 b=true→PW l e.f1 w r→PW l e.f0 (b::w) r
theorem PW.fe {l:List AR} {a b:Int} {w:List Nat} {r:Int} (h:Go.Avl.T8.fe a b∈l) (k:PW l b w r):PW l a w r:=PW.eps (e:=Go.Avl.T8.fe a b) h rfl k
theorem PW.app {l:List AR} {p q r:Int} {v w:List Nat} (h:PW l p v q) (k:PW l q w r):PW l p (v++w) r:=by
 induction h with
 | nil=>exact k
 | eps he hf _ ih=>exact .eps he hf (ih k)
 | byte he hf hb _ ih=>exact .byte he hf hb (ih k)
theorem KV:∀ (t:Rx) (q:Nat) (L:List AR),HC t→(∀ e∈gr t q,e∈L)→∀ w,Lx t w→PW L (gI t q) w (gO t q)
 | .non,q,L,_,h,w,k=>by
   rw[show w=[]from k];exact .fe (h _ (List.mem_singleton.2 rfl)) (.nil _)
 | .one s,q,L,_,h,w,k=>by
   obtain⟨b,rfl,hb⟩:=k;exact PW.byte (e:=AR.mk (gI (.one s) q) (gO (.one s) q) s false) (h _ (List.mem_singleton.2 rfl)) rfl hb (.nil _)
 | .cat a b,q,L,ht,h,w,k=>by
   obtain⟨x,y,rfl,hx,hy⟩:=k;have h1:=KV a q L ht.1 (fun e he=>h e (by simp[gr,he])) x hx;have h2:=KV b (qb a q) L ht.2 (fun e he=>h e (by simp[gr,he])) y hy;have h3:=h2.app (.fe (h (fe (gO b (qb a q)) (gO (.cat a b) q)) (by simp[gr])) (.nil _));rw[List.append_nil]at h3;exact .fe (h (fe (gI (.cat a b) q) (gI a q)) (by simp[gr])) (h1.app (.fe (h (fe (gO a q) (gI b (qb a q))) (by simp[gr])) h3))
 | .alt a b,q,L,ht,h,w,k=>by
   rcases k with k|k
   ·have h3:=(KV a q L ht.1 (fun e he=>h e (by simp[gr,he])) w k).app (.fe (h (fe (gO a q) (gO (.alt a b) q)) (by simp[gr])) (.nil _));rw[List.append_nil]at h3;exact .fe (h (fe (gI (.alt a b) q) (gI a q)) (by simp[gr])) h3
   ·have h3:=(KV b (qb a q) L ht.2 (fun e he=>h e (by simp[gr,he])) w k).app (.fe (h (fe (gO b (qb a q)) (gO (.alt a b) q)) (by simp[gr])) (.nil _));rw[List.append_nil]at h3;exact .fe (h (fe (gI (.alt a b) q) (gI b (qb a q))) (by simp[gr])) h3
 | .un k a,q,L,ht,h,w,kw=>by
   have ih:=KV a q L ht.2.2 (fun e he=>h e (by simp[gr,he]));have e1:=h (fe (gI (.un k a) q) (gI a q)) (by simp[gr]);have e2:=h (fe (gO a q) (gO (.un k a) q)) (by simp[gr]);have e4:k≠5→fe (gI (.un k a) q) (gO (.un k a) q)∈L:=fun c=>h _ (by simp[gr,c]);have one:∀ x,Lx a x→PW L (gI (.un k a) q) x (gO (.un k a) q):=fun x hx=>by
    have h3:=(ih x hx).app (.fe e2 (.nil _));rw[List.append_nil]at h3;exact .fe e1 h3
   have loop:k≠6→∀ y,SL (Lx a) y→PW L (gO a q) y (gO (.un k a) q):=fun c y hy=>by
    have e3:=h (fe (gO a q) (gI a q)) (by simp[gr,c])
    induction hy with
    | nil=>exact .fe e2 (.nil _)
    | step x y _ hx _ ihy=>exact .fe e3 ((ih x hx).app ihy)
   have plus:k≠6→∀ x y,Lx a x→SL (Lx a) y→PW L (gI (.un k a) q) (x++y) (gO (.un k a) q):=fun c x y hx hy=>.fe e1 ((ih x hx).app (loop c y hy));unfold Lx at kw;by_cases c6:k=6
   ·rw[if_pos c6]at kw;rcases kw with rfl|kw
    ·exact .fe (e4 (by omega)) (.nil _)
    ·exact one w kw
   ·rw[if_neg c6]at kw;by_cases c4:k=4
    ·rw[if_pos c4]at kw
     cases kw with
     | nil=>exact .fe (e4 (by omega)) (.nil _)
     | step x y _ hx hy=>exact plus c6 x y hx hy
    ·rw[if_neg c4]at kw;obtain⟨x,y,rfl,hx,hy⟩:=kw;exact plus c6 x y hx hy
def LB:Rx→Nat→(List Nat→Prop)→Int→List Nat→Prop
 | .non,q,K,p=>K
 | .one s,q,K,p=>if p=gO (.one s) q then K else fun w=>∃ b v,w=b::v∧tb s b=true∧K v
 | .cat a b,q,K,p=>if p<(qb a q:Int)then LB a q (LB b (qb a q) K (gI b (qb a q))) p else if p<gI (.cat a b) q then LB b (qb a q) K p else if p=gI (.cat a b) q then LB a q (LB b (qb a q) K (gI b (qb a q))) (gI a q)else K
 | .alt a b,q,K,p=>if p<(qb a q:Int)then LB a q K p else if p<gI (.alt a b) q then LB b (qb a q) K p else if p=gI (.alt a b) q then(fun w=>LB a q K (gI a q) w∨LB b (qb a q) K (gI b (qb a q)) w)else K
 | .un k a,q,K,p=>let K':List Nat→Prop:=if k=6 then K else fun w=>∃ x y,w=x++y∧SL (Lx a) x∧K y
   if p<gI (.un k a) q then LB a q K' p else if p=gI (.un k a) q then(fun w=>LB a q K' (gI a q) w∨(k≠5∧K w))else K
theorem Lo (a b:Rx) (q:Nat) (K:List Nat→Prop) (p:Int):LB (.cat a b) q K p=if p<(qb a q:Int)then LB a q (LB b (qb a q) K (gI b (qb a q))) p else if p<gI (.cat a b) q then LB b (qb a q) K p else if p=gI (.cat a b) q then LB a q (LB b (qb a q) K (gI b (qb a q))) (gI a q)else K:=rfl
theorem ML (a b:Rx) (q:Nat) (K:List Nat→Prop) (p:Int):LB (.alt a b) q K p=if p<(qb a q:Int)then LB a q K p else if p<gI (.alt a b) q then LB b (qb a q) K p else if p=gI (.alt a b) q then(fun w=>LB a q K (gI a q) w∨LB b (qb a q) K (gI b (qb a q)) w)else K:=rfl
theorem UJ (k:Int) (a:Rx) (q:Nat) (K:List Nat→Prop) (p:Int):LB (.un k a) q K p=if p<gI (.un k a) q then LB a q (if k=6 then K else fun w=>∃ x y,w=x++y∧SL (Lx a) x∧K y) p else if p=gI (.un k a) q then(fun w=>LB a q (if k=6 then K else fun w=>∃ x y,w=x++y∧SL (Lx a) x∧K y) (gI a q) w∨(k≠5∧K w))else K:=rfl
def W7 (S:Int→List Nat→Prop) (e:AR):Prop:=(e.f3=true→∀ w,S e.f1 w→S e.f0 w)∧(e.f3=false→∀ b w,tb e.f2 b=true→S e.f1 w→S e.f0 (b::w))
theorem W7.of {S S':Int→List Nat→Prop} {e:AR} (h:W7 S e) (h0:S' e.f0=S e.f0) (h1:S' e.f1=S e.f1):W7 S' e:=by
 unfold W7;rw[h0,h1];exact h
theorem W7.fe {S:Int→List Nat→Prop} {a b:Int} (h:∀ w,S b w→S a w):W7 S (Go.Avl.T8.fe a b):=⟨fun _=>h,fun h=>by cases h⟩
theorem PW.lab {l:List AR} {S:Int→List Nat→Prop} (hs:∀ e∈l,W7 S e) {p r:Int} {w:List Nat} (h:PW l p w r) (k:S r []):S p w:=by
 induction h with
 | nil=>exact k
 | eps he hf _ ih=>exact(hs _ he).1 hf _ (ih k)
 | byte he hf hb _ ih=>exact(hs _ he).2 hf _ _ hb (ih k)
theorem K7:∀ (t:Rx) (q:Nat) (K:List Nat→Prop),HC t→(∀ e∈gr t q,W7 (LB t q K) e)∧LB t q K (gO t q)=K∧(∀ w,LB t q K (gI t q) w→∃ x y,w=x++y∧Lx t x∧K y)
 | .non,q,K,_=>⟨fun e he=>by
    rw[show e=_ from List.mem_singleton.1 he];exact .fe fun w h=>h,rfl,fun w h=>⟨[],w,rfl,rfl,h⟩⟩
 | .one s,q,K,_=>by
   have g:=HJ (.one s) q;have hI:LB (.one s) q K (gI (.one s) q)=fun w=>∃ b v,w=b::v∧tb s b=true∧K v:=by unfold LB;rw[if_neg (by omega)]
   have hO:LB (.one s) q K (gO (.one s) q)=K:=by unfold LB;rw[if_pos rfl]
   refine⟨fun e he=>?_,hO,fun w h=>?_⟩
   ·rw[show e=_ from List.mem_singleton.1 he];refine⟨fun h=>(by cases h),fun _ b w hb h=>?_⟩;show LB (.one s) q K (gI (.one s) q) (b::w);have h:LB (.one s) q K (gO (.one s) q) w:=h;rw[hO]at h;rw[hI];exact⟨b,w,rfl,hb,h⟩
   ·rw[hI]at h;obtain⟨b,v,rfl,hb,hv⟩:=h;exact⟨[b],v,rfl,⟨b,rfl,hb⟩,hv⟩
 | .cat a b,q,K,ht=>by
   have g:=HJ (.cat a b) q;have g1:=SN a b q;have ga:=HJ a q;have gb:=HJ b (qb a q);obtain⟨b1,b2,b3⟩:=K7 b (qb a q) K ht.2;generalize hK:LB b (qb a q) K (gI b (qb a q))=K1;obtain⟨a1,a2,a3⟩:=K7 a q K1 ht.1;have cA:∀ p,p<(qb a q:Int)→LB (.cat a b) q K p=LB a q K1 p:=fun p h=>by rw[Lo,if_pos h,hK]
   have cB:∀ p,(qb a q:Int)≤p→p<gI (.cat a b) q→LB (.cat a b) q K p=LB b (qb a q) K p:=fun p h k=>by rw[Lo,if_neg (by omega),if_pos k]
   have cI:LB (.cat a b) q K (gI (.cat a b) q)=LB a q K1 (gI a q):=by rw[Lo,if_neg (by omega),if_neg (by omega),if_pos rfl,hK]
   have cO:LB (.cat a b) q K (gO (.cat a b) q)=K:=by rw[Lo,if_neg (by omega),if_neg (by omega),if_neg (by omega)]
   refine⟨fun e he=>?_,cO,fun w h=>?_⟩
   ·simp only[gr,List.mem_append,List.mem_cons,List.not_mem_nil,or_false]at he;rcases he with(he|he)|he|he|he
    ·have r:=Bs a q ht.1 e he;exact(a1 e he).of (cA _ r.2.1) (cA _ r.2.2.2.1)
    ·have r:=Bs b _ ht.2 e he;exact(b1 e he).of (cB _ r.1 (by have:=r.2.1;omega)) (cB _ r.2.2.1 (by have:=r.2.2.2.1;omega))
    ·rw[he];refine .fe fun w h=>?_;rw[cI];rw[cA _ (by omega)]at h;exact h
    ·rw[he];refine .fe fun w h=>?_;rw[cA _ (by omega),a2, ←hK];rw[cB _ (by omega) (by omega)]at h;exact h
    ·rw[he];refine .fe fun w h=>?_;rw[cB _ (by omega) (by omega),b2];rw[cO]at h;exact h
   ·rw[cI]at h;obtain⟨x,y,rfl,hx,hy⟩:=a3 w h;rw[←hK]at hy;obtain⟨y1,y2,rfl,h1,h2⟩:=b3 y hy;exact⟨x++y1,y2,by simp,⟨x,y1,rfl,hx,h1⟩,h2⟩
 | .alt a b,q,K,ht=>by
   have g:=HJ (.alt a b) q;have g1:=Ua a b q;have ga:=HJ a q;have gb:=HJ b (qb a q);obtain⟨b1,b2,b3⟩:=K7 b (qb a q) K ht.2;obtain⟨a1,a2,a3⟩:=K7 a q K ht.1;have cA:∀ p,p<(qb a q:Int)→LB (.alt a b) q K p=LB a q K p:=fun p h=>by rw[ML,if_pos h]
   have cB:∀ p,(qb a q:Int)≤p→p<gI (.alt a b) q→LB (.alt a b) q K p=LB b (qb a q) K p:=fun p h k=>by rw[ML,if_neg (by omega),if_pos k]
   have cI:LB (.alt a b) q K (gI (.alt a b) q)=fun w=>LB a q K (gI a q) w∨LB b (qb a q) K (gI b (qb a q)) w:=by rw[ML,if_neg (by omega),if_neg (by omega),if_pos rfl]
   have cO:LB (.alt a b) q K (gO (.alt a b) q)=K:=by rw[ML,if_neg (by omega),if_neg (by omega),if_neg (by omega)]
   refine⟨fun e he=>?_,cO,fun w h=>?_⟩
   ·simp only[gr,List.mem_append,List.mem_cons,List.not_mem_nil,or_false]at he;rcases he with(he|he)|he|he|he|he
    ·have r:=Bs a q ht.1 e he;exact(a1 e he).of (cA _ r.2.1) (cA _ r.2.2.2.1)
    ·have r:=Bs b _ ht.2 e he;exact(b1 e he).of (cB _ r.1 (by have:=r.2.1;omega)) (cB _ r.2.2.1 (by have:=r.2.2.2.1;omega))
    ·rw[he];refine .fe fun w h=>?_;rw[cI];rw[cA _ (by omega)]at h;exact .inl h
    ·rw[he];refine .fe fun w h=>?_;rw[cA _ (by omega),a2];rw[cO]at h;exact h
    ·rw[he];refine .fe fun w h=>?_;rw[cI];rw[cB _ (by omega) (by omega)]at h;exact .inr h
    ·rw[he];refine .fe fun w h=>?_;rw[cB _ (by omega) (by omega),b2];rw[cO]at h;exact h
   ·rw[cI]at h;rcases h with h|h
    ·obtain⟨x,y,rfl,hx,hy⟩:=a3 w h;exact⟨x,y,rfl,.inl hx,hy⟩
    ·obtain⟨x,y,rfl,hx,hy⟩:=b3 w h;exact⟨x,y,rfl,.inr hx,hy⟩
 | .un k a,q,K,ht=>by
   have g:=HJ (.un k a) q;have g1:=WI k a q;have ga:=HJ a q;have kr:=ht.1;generalize hK:(if k=6 then K else fun w=>∃ x y,w=x++y∧SL (Lx a) x∧K y:List Nat→Prop)=K1;obtain⟨a1,a2,a3⟩:=K7 a q K1 ht.2.2;have up:∀ w,K w→K1 w:=fun w h=>by
    rw[←hK];split
    ·exact h
    ·exact⟨[],w,rfl,.nil,h⟩
   have cA:∀ p,p<(qb a q:Int)→LB (.un k a) q K p=LB a q K1 p:=fun p h=>by
    rw[UJ,if_pos (by omega),hK]
   have cI:LB (.un k a) q K (gI (.un k a) q)=fun w=>LB a q K1 (gI a q) w∨(k≠5∧K w):=by
    rw[UJ,if_neg (by omega),if_pos rfl,hK]
   have cO:LB (.un k a) q K (gO (.un k a) q)=K:=by
    rw[UJ,if_neg (by omega),if_neg (by omega)]
   refine⟨fun e he=>?_,cO,fun w h=>?_⟩
   ·rcases Sk he with he|he|he|⟨c,he⟩|⟨c,he⟩
    ·have r:=Bs a q ht.2.2 e he;exact(a1 e he).of (cA _ r.2.1) (cA _ r.2.2.2.1)
    ·rw[he];refine .fe fun w h=>?_;rw[cI];rw[cA _ (by omega)]at h;exact .inl h
    ·rw[he];refine .fe fun w h=>?_;rw[cA _ (by omega),a2];rw[cO]at h;exact up w h
    ·rw[he];refine .fe fun w h=>?_;rw[cA _ (by omega),a2];rw[cA _ (by omega)]at h;obtain⟨x,y,rfl,hx,hy⟩:=a3 w h;rw[←hK,if_neg c]at hy⊢
     obtain⟨u,v,rfl,hu,hv⟩:=hy;refine⟨x++u,v,by simp,?_,hv⟩;by_cases e:x=[]
     ·rw[e];exact hu
     ·exact .step x u e hx hu
    ·rw[he];refine .fe fun w h=>?_;rw[cI];rw[cO]at h;exact .inr ⟨c,h⟩
   ·rw[cI]at h;have nil:k≠5→Lx (.un k a) []:=fun c=>by
     unfold Lx;by_cases c6:k=6
     ·rw[if_pos c6];exact .inl rfl
     ·rw[if_neg c6];by_cases c4:k=4
      ·rw[if_pos c4];exact .nil
      ·have:=ht.2.1;omega
    rcases h with h|⟨c,h⟩
    ·obtain⟨x,y,rfl,hx,hy⟩:=a3 w h;rw[←hK]at hy;by_cases c6:k=6
     ·rw[if_pos c6]at hy;exact⟨x,y,rfl,by unfold Lx;rw[if_pos c6];exact .inr hx,hy⟩
     ·rw[if_neg c6]at hy;obtain⟨u,v,rfl,hu,hv⟩:=hy;refine⟨x++u,v,by simp,?_,hv⟩;unfold Lx;rw[if_neg c6];by_cases c4:k=4
      ·rw[if_pos c4];by_cases e:x=[]
       ·rw[e];exact hu
       ·exact .step x u e hx hu
      ·rw[if_neg c4];exact⟨x,u,rfl,hx,hu⟩
    ·exact⟨[],w,rfl,nil c,h⟩
theorem QB {t:Rx} (ht:HC t) (q:Nat) (w:List Nat):PW (gr t q) (gI t q) w (gO t q)↔Lx t w:=by
 refine⟨fun h=>?_,KV t q _ ht (fun e he=>he) w⟩;obtain⟨h1,h2,h3⟩:=K7 t q (fun w=>w=[]) ht;obtain⟨x,y,rfl,hx,hy⟩:=h3 w (h.lab h1 (by rw[h2]));rw[hy,List.append_nil];exact hx
def hx (d:Nat):Int:=if d<10 then 48+d else 87+d
def PJ (n:Nat):List Int:=if n=10 then [92,110]else if n=9 then [92,116]else if n=13 then [92,114]else if n<32∨126<n then [92,120,hx (n / 16),hx (n%16)]else if n=92 then [92,92]else [(n:Int)]
theorem X9:∀ n:Nat,n<256→WH 20000 (w8 n) (ByteArray.mk #[])=some (strOfNums (PJ n)):=by decide+kernel
abbrev YI:ByteArray:=ByteArray.mk #[48,49,50,51,52,53,54,55,56,57,97,98,99,100,101,102]
theorem YM:∀ n:Nat,n<256→(0≤(IntKind.i64.wrap ((n:Int).tdiv (16:Int)))∧(IntKind.i64.wrap ((n:Int).tdiv (16:Int)))≤(AG ((IntKind.i64.wrap ((n:Int).tdiv (16:Int)))+(1:Int)))∧(AG ((IntKind.i64.wrap ((n:Int).tdiv (16:Int)))+(1:Int)))≤(YI.size:Int))∧
 ((ByteArray.mk #[92,120]).size+(YI.extract (IntKind.i64.wrap ((n:Int).tdiv (16:Int))).toNat (AG ((IntKind.i64.wrap ((n:Int).tdiv (16:Int)))+(1:Int))).toNat).size≤9223372036854775807)∧
 (0≤((n:Int).tmod (16:Int))∧((n:Int).tmod (16:Int))≤(AG (((n:Int).tmod (16:Int))+(1:Int)))∧(AG (((n:Int).tmod (16:Int))+(1:Int)))≤(YI.size:Int))∧
 (((ByteArray.mk #[92,120])++(YI.extract (IntKind.i64.wrap ((n:Int).tdiv (16:Int))).toNat (AG ((IntKind.i64.wrap ((n:Int).tdiv (16:Int)))+(1:Int))).toNat)).size+(YI.extract ((n:Int).tmod (16:Int)).toNat (AG (((n:Int).tmod (16:Int))+(1:Int))).toNat).size≤9223372036854775807)∧
 (((ByteArray.mk #[92,120])++(YI.extract (IntKind.i64.wrap ((n:Int).tdiv (16:Int))).toNat (AG ((IntKind.i64.wrap ((n:Int).tdiv (16:Int)))+(1:Int))).toNat))++(YI.extract ((n:Int).tmod (16:Int)).toNat (AG (((n:Int).tmod (16:Int))+(1:Int))).toNat))=strOfNums [92,120,hx (n / 16),hx (n%16)]:=by decide+kernel
def Db (s:ByteArray) (n:Nat):Bool:=decide (1<s.size)&&decide ((n=10∧AF s 1=110)∨(n=9∧AF s 1=116)∨(n=13∧AF s 1=114))
def Fs (s:ByteArray) (n:Nat):Bool:=decide (3<s.size)&&decide (AF s 1=120∧AF s 2=hx (n / 16)∧AF s 3=hx (n%16))
theorem YK (n:Nat) (h:n<256):w8 (n:Int)=n:=HW (by omega) (by omega)
theorem V5:∀ n:Nat,n<256→(strOfNums (PJ n)).size=2→AF (strOfNums (PJ n)) 1≠92→(n=10∨n=9∨n=13):=by decide+kernel
theorem Wx:∀ d:Nat,d<16→0≤hx d∧hx d≤255:=by decide+kernel
theorem XP:∀ n:Nat,n<256→∀ x∈PJ n,0≤x∧x≤255:=by decide+kernel
theorem Qh (s:ByteArray) (h0:AF s 0=92) (n m:Nat) (hn:n<256):
 Bf 20000 s (m+1) (n:Int)=if Db s n=true then some ((n:Int),2,true)else if Fs s n=true then some ((n:Int),4,true)else Bf 20000 s m ((n+1:Nat):Int):=by
 have lt:(n:Int)<256:=by omega
 obtain⟨g1,g2,g3,g4,g5⟩:=YM n hn;have hw:AG ((n:Int)+1)=((n+1:Nat):Int):=by rw[A1 (by omega) (by omega)];omega
 rw[Bf.eq_2,if_pos lt,X9 n hn,Option.bind_some]
 have e2:(if((strOfNums (PJ n)).size:Int)=(2:Int)then if 0≤(1:Int)∧(1:Int)<((strOfNums (PJ n)).size:Int)then if(AF (strOfNums (PJ n)) (1:Int))≠(92:Int)then if(1:Int)<(s.size:Int)then if 0≤(0:Int)∧(0:Int)≤(2:Int)∧(2:Int)≤(s.size:Int)then some (decide ((s.extract (0:Int).toNat (2:Int).toNat)=strOfNums (PJ n)))
  else none
  else some (false)
  else some (false)
  else none
  else some (false))=some (Db s n):=by
  by_cases a:((strOfNums (PJ n)).size:Int)=2
  ·rw[if_pos a,if_pos ⟨by omega,by omega⟩];by_cases b:AF (strOfNums (PJ n)) 1≠92
   ·rw[if_pos b];have h3:=V5 n hn (by omega) b;by_cases c:(1:Int)<(s.size:Int)
    ·rw[if_pos c,if_pos ⟨by omega,by omega,by omega⟩];have hx:=Gi s 2 (by omega);have hr:(List.range 2).map (fun i:Nat=>AF s (i:Int))=[92,AF s 1]:=by
      show [AF s ((0:Nat):Int),AF s ((1:Nat):Int)]=_;simp[h0]
     rw[hr]at hx;have hx':s.extract (0:Int).toNat (2:Int).toNat=strOfNums [92,AF s 1]:=hx;have hu:=Az s 1;have c':1<s.size:=by omega
     rw[hx'];congr 1;have inj:strOfNums [92,AF s 1]=strOfNums (PJ n)↔ [92,AF s 1]=PJ n:=⟨Cl (by simp;omega) (XP n hn),fun h=>by rw[h]⟩;simp only[inj];rcases h3 with rfl|rfl|rfl
     ·simp[Db,c',PJ]
     ·simp[Db,c',PJ]
     ·simp[Db,c',PJ]
    ·have c':¬ 1<s.size:=by omega
     rw[if_neg c];simp[Db,c']
   ·rw[if_neg b];have:¬ (n=10∨n=9∨n=13):=by
     rintro (rfl|rfl|rfl)<;>exact b (by decide)
    simp[Db];omega
  ·rw[if_neg a];have:¬ (n=10∨n=9∨n=13):=by
    rintro (rfl|rfl|rfl)<;>exact a (by decide)
   simp[Db];omega
 rw[e2,Option.bind_some,YK n hn];by_cases a:Db s n=true
 ·rw[if_pos a,if_pos a]
 ·rw[if_neg a,if_neg a,if_pos g1,if_pos g2,if_pos g3,if_pos g4,g5]
  have e4:(if(3:Int)<(s.size:Int)then if 0≤(0:Int)∧(0:Int)≤(4:Int)∧(4:Int)≤(s.size:Int)then some (decide ((s.extract (0:Int).toNat (4:Int).toNat)=strOfNums [92,120,hx (n / 16),hx (n%16)]))
   else none
   else some (false))=some (Fs s n):=by
   by_cases c:(3:Int)<(s.size:Int)
   ·rw[if_pos c,if_pos ⟨by omega,by omega,by omega⟩];have hx':=Gi s 4 (by omega);have hr:(List.range 4).map (fun i:Nat=>AF s (i:Int))=[92,AF s 1,AF s 2,AF s 3]:=by
     show [AF s ((0:Nat):Int),AF s ((1:Nat):Int),AF s ((2:Nat):Int),AF s ((3:Nat):Int)]=_;simp[h0]
    rw[hr]at hx';have hx'':s.extract (0:Int).toNat (4:Int).toNat=strOfNums [92,AF s 1,AF s 2,AF s 3]:=hx';have u1:=Az s 1;have u2:=Az s 2;have u3:=Az s 3;have v1:=Wx (n / 16) (by omega);have v2:=Wx (n%16) (by omega);have inj:strOfNums [92,AF s 1,AF s 2,AF s 3]=strOfNums [92,120,hx (n / 16),hx (n%16)]↔ [92,AF s 1,AF s 2,AF s 3]=[92,120,hx (n / 16),hx (n%16)]:=⟨Cl (by simp;omega) (by simp;omega),fun h=>by rw[h]⟩;have c':3<s.size:=by omega
    rw[hx''];simp only[inj];simp[Fs,c']
   ·have c':¬ 3<s.size:=by omega
    rw[if_neg c];simp[Fs,c']
  rw[e4,Option.bind_some,hw]
theorem MT (s:ByteArray) (h0:AF s 0=92) (hno:∀ j:Nat,j<256→Db s j=false∧Fs s j=false):∀ (m i:Nat),i≤256→256-i<m→Bf 20000 s m (i:Int)=FW 20000 s
 | 0,i,_,h=>by omega
 | m+1,i,hi,h=>by
   by_cases a:i<256
   ·obtain⟨k1,k2⟩:=hno i a;rw[Qh s h0 i m a,k1,k2];simp only[Bool.false_eq_true,if_false];exact MT s h0 hno m (i+1) (by omega) (by omega)
   ·rw[Bf.eq_2,if_neg (by omega)]
theorem SJ (s:ByteArray) (h0:AF s 0=92) (u:Nat) (hu:u<256) (M6:Db s u=true∨Fs s u=true) (hno:∀ j:Nat,j<u→Db s j=false∧Fs s j=false):∀ (m i:Nat),i≤u→u-i<m→
 Bf 20000 s m (i:Int)=some ((u:Int),if Db s u=true then 2 else 4,true)
 | 0,i,_,h=>by omega
 | m+1,i,hi,h=>by
   rw[Qh s h0 i m (by omega)];by_cases a:i=u
   ·subst a;by_cases b:Db s i=true
    ·rw[if_pos b,if_pos b]
    ·rw[if_neg b,if_neg b,if_pos (M6.resolve_left b)]
   ·obtain⟨k1,k2⟩:=hno i (by omega);rw[k1,k2];simp only[Bool.false_eq_true,if_false];exact SJ s h0 u hu M6 hno m (i+1) (by omega) (by omega)
def hv (b:Nat):Int:=if 48≤b∧b≤57 then(b:Int) -48 else if 97≤b∧b≤102 then(b:Int) -87 else -1
theorem OM:∀ b:Nat,b<256→Mm 20000 (b:Int)=some (hv b):=by decide+kernel
theorem WM:∀ b:Nat,b<256→0≤hv b→(hv b).toNat<16∧hx (hv b).toNat=b:=by decide+kernel
theorem QJ:∀ d:Nat,d<16→hv (hx d).toNat=d∧0≤hx d∧hx d<256:=by decide+kernel
theorem Vu:∀ b:Nat,b<256→Te 20000 (b:Int)=some (decide ((48≤b∧b≤57)∨(97≤b∧b≤122)∨(65≤b∧b≤90))):=by decide+kernel
theorem Tm:∀ a:Nat,a<16→∀ b:Nat,b<16→w8 (bits .or .i64 (IntKind.i64.wrap ((a:Int)*2 ^ (min (4:Int).toNat IntKind.i64.bits))) (b:Int))=((16*a+b:Nat):Int):=by decide+kernel
theorem ZE (s:ByteArray) (h:¬ AF s 1=110∧¬ AF s 1=116∧¬ AF s 1=114∧¬ AF s 1=120) (j:Nat):Db s j=false∧Fs s j=false:=by
 obtain⟨a,b,c,d⟩:=h;simp[Db,Fs,a,b,c,d]
theorem UL (s:ByteArray) (h0:AF s 0=92) (hz:s.size=1):Bf 20000 s 20000 0=some (0,0,false):=by
 have:=MT s h0 (fun j _=>by simp[Db,Fs,hz]) 20000 0 (by omega) (by omega);rw[show ((0:Nat):Int)=0 from rfl]at this;rw[this,FW,if_neg (by omega),Option.bind_some,if_neg (by simp)]
theorem WZ (s:ByteArray) (hz:1<s.size):FW 20000 s=Ct 20000 s:=by
 obtain⟨b,hb⟩:∃ b:Nat,AF s 1=b:=⟨(AF s 1).toNat,by have:=Az s 1;omega⟩;have hlt:b<256:=by have:=Az s 1;omega
 have g:0≤(1:Int)∧(1:Int)<(s.size:Int):=⟨by omega,by omega⟩;have g1:(1:Int)<(s.size:Int):=by omega
 unfold FW Ct;simp only[if_pos g,if_pos g1,hb,Vu b hlt,Option.bind_some];clear hb g g1 hz
 revert b
 have key:∀ b:Nat,b<256→(Option.bind (α:=Bool) (if(32:Int)≤(b:Int)then if(b:Int)≤(126:Int)then some (!(decide ((48≤b∧b≤57)∨(97≤b∧b≤122)∨(65≤b∧b≤90))))else some false else some false) fun b6=>if b6=true then some ((b:Int),(2:Int),true)else some ((0:Int),(0:Int),false))=(if(32≤b∧b≤126)∧¬ ((48≤b∧b≤57)∨(97≤b∧b≤122)∨(65≤b∧b≤90))then some ((b:Int),(2:Int),true)else some ((0:Int),(0:Int),false)):=by decide+kernel
 intro b hlt;decide+revert+kernel
theorem Ot (s:ByteArray) (h0:AF s 0=92) (hz:1<s.size) (u:Nat) (hu:(u=10∧AF s 1=110)∨(u=9∧AF s 1=116)∨(u=13∧AF s 1=114)):Bf 20000 s 20000 0=some ((u:Int),2,true):=by
 have hh:Db s u=true:=by simp[Db,hz];omega
 have:=SJ s h0 u (by omega) (.inl hh) (fun j hj=>by
  refine⟨?_,?_⟩
  ·simp only[Db,Bool.and_eq_false_iff,decide_eq_false_iff_not];right;omega
  ·simp only[Fs,Bool.and_eq_false_iff,decide_eq_false_iff_not];right;omega) 20000 0 (by omega) (by omega)
 rw[if_pos hh]at this;exact this
theorem U8 (s:ByteArray):∃ t,Ct 20000 s=some t:=by
 obtain⟨b,hb⟩:∃ b:Nat,AF s 1=b:=⟨(AF s 1).toNat,by have:=Az s 1;omega⟩;have hlt:b<256:=by have:=Az s 1;omega
 apply Option.isSome_iff_exists.1;unfold Ct;simp only[hb];clear hb
 revert b
 decide+kernel
theorem I3 (s:ByteArray) (h0:AF s 0=92) (c4:AF s 1=120) (hz:1<s.size) (hno:∀ j:Nat,j<256→Fs s j=false):Bf 20000 s 20000 0=some (0,0,false):=by
 have hn:=MT s h0 (fun j hj=>⟨by simp[Db,c4],hno j hj⟩) 20000 0 (by omega) (by omega);rw[show ((0:Nat):Int)=0 from rfl]at hn;rw[hn,WZ s hz];unfold Ct;simp only[c4];rfl
theorem SF (s:ByteArray) (h0:AF s 0=92) (c4:AF s 1=120) (hz:1<s.size):∃ t,Ge 20000 s=some t∧Bf 20000 s 20000 0=some t:=by
 obtain⟨b,hb⟩:∃ b:Nat,AF s 2=b:=⟨(AF s 2).toNat,by have:=Az s 2;omega⟩;have hbl:b<256:=by have:=Az s 2;omega
 obtain⟨d,hd⟩:∃ d:Nat,AF s 3=d:=⟨(AF s 3).toNat,by have:=Az s 3;omega⟩;have hdl:d<256:=by have:=Az s 3;omega
 unfold Ge;by_cases z:(4:Int)≤(s.size:Int)
 ·have g2:0≤(2:Int)∧(2:Int)<(s.size:Int):=⟨by omega,by omega⟩;have g3:0≤(3:Int)∧(3:Int)<(s.size:Int):=⟨by omega,by omega⟩;have z':3<s.size:=by omega
  simp only[if_pos z,if_pos g2,if_pos g3,hb,hd,OM b hbl,OM d hdl,Option.bind_some];have miss:(¬ 0≤hv b∨¬ 0≤hv d)→∀ j:Nat,j<256→Fs s j=false:=by
   intro hm j hj;simp only[Fs,hb,hd,Bool.and_eq_false_iff,decide_eq_false_iff_not];right;rintro⟨_,k1,k2⟩;have q1:=QJ (j / 16) (by omega);have q2:=QJ (j%16) (by omega);rw[←k1]at q1;rw[←k2]at q2;simp only[Int.toNat_natCast]at q1 q2;omega
  by_cases v:0≤hv b
  ·simp only[if_pos v,Option.bind_some];by_cases w:0≤hv d
   ·rw[if_pos (by simpa using w)];obtain⟨p1,p2⟩:=WM b hbl v;obtain⟨p3,p4⟩:=WM d hdl w;obtain⟨x,hx'⟩:∃ x:Nat,hv b=x:=⟨(hv b).toNat,by omega⟩;obtain⟨y,hy⟩:∃ y:Nat,hv d=y:=⟨(hv d).toNat,by omega⟩;rw[hx']at p1 p2⊢;rw[hy]at p3 p4⊢
    simp only[Int.toNat_natCast]at p1 p2 p3 p4;refine⟨_,rfl,?_⟩;rw[Tm x p1 y p3];have e1:(16*x+y) / 16=x:=by omega
    have e2:(16*x+y)%16=y:=by omega
    have n2:Db s (16*x+y)=false:=by simp[Db,c4]
    have h4:Fs s (16*x+y)=true:=by simp[Fs,z',c4,hb,hd,e1,e2,p2,p4]
    have:=SJ s h0 (16*x+y) (by omega) (.inr h4) (fun j hj=>⟨by simp[Db,c4],by
     simp only[Fs,hb,hd,Bool.and_eq_false_iff,decide_eq_false_iff_not];right;rintro⟨_,k1,k2⟩;have q1:=(QJ (j / 16) (by omega)).1;have q2:=(QJ (j%16) (by omega)).1;rw[←k1]at q1;rw[←k2]at q2;simp only[Int.toNat_natCast]at q1 q2
     omega⟩) 20000 0 (by omega) (by omega)
    rw[n2]at this;exact this
   ·rw[if_neg (by simpa using w)];exact⟨_,rfl,I3 s h0 c4 hz (miss (.inr w))⟩
  ·simp only[if_neg v,Option.bind_some];rw[if_neg (by simp)];exact⟨_,rfl,I3 s h0 c4 hz (miss (.inl v))⟩
 ·rw[if_neg z,Option.bind_some,if_neg (by simp)];exact⟨_,rfl,I3 s h0 c4 hz (fun j _=>by simp[Fs];omega)⟩
theorem VW (s:ByteArray) (hs:s.size≤1000000):∃ t,OQ 20000 s=some t∧NB 20000 s=some t:=by
 unfold OQ NB;by_cases e:s=ByteArray.mk #[]
 ·rw[if_pos e,if_pos e];exact⟨_,rfl,rfl⟩
 have hpos:0<s.size:=by
  rcases Nat.eq_zero_or_pos s.size with h|h
  ·exact absurd (by rw[KG s,h];rfl) e
  ·exact h
 have g:0≤(0:Int)∧(0:Int)<(s.size:Int):=⟨by omega,by omega⟩;simp only[if_neg e,if_pos g];by_cases a:AF s 0=92
 ·simp only[a,ne_eq,not_true,if_false];by_cases b:(s.size:Int)<2
  ·rw[if_pos b,UL s a (by omega)];exact⟨_,rfl,rfl⟩
  ·have g1:0≤(1:Int)∧(1:Int)<(s.size:Int):=⟨by omega,by omega⟩;rw[if_neg b,if_pos g1];by_cases c1:AF s 1=110
   ·rw[if_pos c1,Ot s a (by omega) 10 (by omega)];exact⟨_,rfl,rfl⟩
   rw[if_neg c1];by_cases c2:AF s 1=116
   ·rw[if_pos c2,Ot s a (by omega) 9 (by omega)];exact⟨_,rfl,rfl⟩
   rw[if_neg c2];by_cases c3:AF s 1=114
   ·rw[if_pos c3,Ot s a (by omega) 13 (by omega)];exact⟨_,rfl,rfl⟩
   rw[if_neg c3];by_cases c4:AF s 1=120
   ·rw[if_pos c4];exact SF s a c4 (by omega)
   ·rw[if_neg c4];have hn:=MT s a (fun j _=>ZE s ⟨c1,c2,c3,c4⟩ j) 20000 0 (by omega) (by omega);rw[show ((0:Nat):Int)=0 from rfl]at hn;rw[hn,WZ s (by omega)];by_cases c5:AF s 1=0
    ·rw[if_pos c5];exact⟨_,rfl,by unfold Ct;simp only[c5];rfl⟩
    ·rw[if_neg c5];obtain⟨t,ht⟩:=U8 s;exact⟨t,ht,ht⟩
 ·rw[if_pos a,if_pos a];exact⟨_,rfl,rfl⟩
def PD (t:ByteArray) (c:Int):Bool:=(Hk 20000 t c).getD false
theorem XO (t:ByteArray) (hz:t.size≤1000) (c:Int):∀ (m i fuel:Nat),i+m=t.size→m<fuel→∃ b,Bg 20000 t c fuel (i:Int)=some b∧∀ (s:ByteArray) (a:Nat) (dp:Int),a<s.size→AF s (a:Int)=c→Cu 20000 (Ai.mk s (a:Int) dp) t fuel (i:Int)=some b
 | 0,i,fu+1,hi,_=>⟨false,by rw[Bg.eq_2,if_neg (by omega)];rfl,fun s a dp _ _=>by rw[Cu.eq_2,if_neg (by omega)];rfl⟩
 | m+1,i,fu+1,hi,hf=>by
   obtain⟨b,hb,hb2⟩:=XO t hz c m (i+1) fu (by omega) (by omega);by_cases q:AF t (i:Int)=c
   ·refine⟨true,by rw[Bg.eq_2,if_pos (by omega),if_pos ⟨by omega,by omega⟩,if_pos q],fun s a dp ha hc=>?_⟩;rw[Cu.eq_2,if_pos (by omega)];show (if 0≤(a:Int)∧(a:Int)<(s.size:Int)then _ else none)=_;rw[if_pos ⟨by omega,by omega⟩,if_pos ⟨by omega,by omega⟩];exact if_pos (by rw[q];exact hc)
   ·refine⟨b,by rw[Bg.eq_2,if_pos (by omega),if_pos ⟨by omega,by omega⟩,if_neg q,CP (by omega) (by omega)];exact_mod_cast hb,fun s a dp ha hc=>?_⟩;rw[Cu.eq_2,if_pos (by omega)];show (if 0≤(a:Int)∧(a:Int)<(s.size:Int)then _ else none)=_;rw[if_pos ⟨by omega,by omega⟩,if_pos ⟨by omega,by omega⟩,CP (by omega) (by omega)];refine(if_neg (fun e=>q ?_)).trans (by exact_mod_cast hb2 s a dp ha hc);rw[←hc];exact e.symm
theorem LH (t:ByteArray) (hz:t.size≤1000) (c:Int):Hk 20000 t c=some (PD t c):=by
 obtain⟨b,hb,_⟩:=XO t hz c t.size 0 20000 (by omega) (by omega);have hb:Hk 20000 t c=some b:=hb;unfold PD;rw[hb];rfl
theorem JH (s:ByteArray) (a:Nat) (dp:Int) (t:ByteArray) (hz:t.size≤1000):Mt 20000 (Ai.mk s (a:Int) dp) t=some (decide (s.size≤a)||PD t (AF s (a:Int))):=by
 unfold Mt;show (if(s.size:Int)≤(a:Int)then _ else _)=_;by_cases q:s.size≤a
 ·rw[if_pos (by omega)];simp[q]
 ·rw[if_neg (by omega)];obtain⟨b,hb,hb2⟩:=XO t hz (AF s (a:Int)) t.size 0 20000 (by omega) (by omega);have hb:Hk 20000 t (AF s (a:Int))=some b:=hb;rw[LH t hz]at hb;have:=hb2 s a dp (by omega) rfl;rw[show ((0:Nat):Int)=0 from rfl]at this;rw[this, ←hb];simp[q]
theorem Tn (s:ByteArray) (hz:s.size≤1000) (a:Nat) (dp c:Int):Ka 20000 (Ai.mk s (a:Int) dp) c=some (if a<s.size∧AF s (a:Int)=c then(true,Ai.mk s ((a+1:Nat):Int) dp)else(false,Ai.mk s (a:Int) dp)):=by
 unfold Ka;show Option.bind (if(a:Int)<(s.size:Int)then if 0≤(a:Int)∧(a:Int)<(s.size:Int)then some (decide (AF s (a:Int)=c))else none else some false) _=_;by_cases q:a<s.size
 ·rw[if_pos (by omega),if_pos ⟨by omega,by omega⟩,Option.bind_some];by_cases e:AF s (a:Int)=c
  ·rw[decide_eq_true e,if_pos rfl,if_pos ⟨q,e⟩];show some (true,Ai.mk s (AG ((a:Int)+1)) dp)=_;rw[CP (by omega) (by omega)];rfl
  ·rw[decide_eq_false e,if_neg (by simp),if_neg (by simp[e])]
 ·rw[if_neg (by omega),Option.bind_some,if_neg (by simp),if_neg (by simp[q])]
theorem I6 (s:ByteArray) (hz:s.size≤1000) {a:Nat} (ha:a≤s.size) (dp:Int):∃ (c:Nat) (ok:Bool) (n:Nat),Mx 20000 (Ai.mk s (a:Int) dp)=some ((c:Int),ok,Ai.mk s ((a+n:Nat):Int) dp)∧NB 20000 (s.extract a s.size)=some ((c:Int),(n:Int),ok)∧c<256∧a+n≤s.size∧(ok=true→1≤n):=by
 obtain⟨y,y1,c,n,y2,y3,y4,y5⟩:=Rh (s.extract a s.size);have hx:(s.extract a s.size).size=s.size-a:=by simp
 rw[hx]at y4;obtain⟨t,t1,t2⟩:=VW (s.extract a s.size) (by omega);have e:t=y:=Option.some.inj (t1.symm.trans y1);subst e;refine⟨c,t.2.2,n,?_,by rw[t2];exact congrArg some y2,y3,by omega,y5⟩;unfold Mx;show (if 0≤(a:Int)∧(a:Int)≤(s.size:Int)∧(s.size:Int)≤(s.size:Int)then(OQ 20000 (s.extract (a:Int).toNat (s.size:Int).toNat)).bind _ else none)=_;rw[if_pos ⟨by omega,by omega,Int.le_refl _⟩,Int.toNat_natCast,Int.toNat_natCast,y1,Option.bind_some];show some (t.1,t.2.2,Ai.mk s (AG ((a:Int)+t.2.1)) dp)=_;rw[y2];show some ((c:Int),t.2.2,Ai.mk s (AG ((a:Int)+(n:Int))) dp)=_;rw[CP (by omega) (by omega)];rfl
theorem bg (c:Int):PD (ByteArray.mk #[93]) c=decide (c=93):=by
 unfold PD Hk;rw[show (20000:Nat)=19998+1+1 from rfl,Bg.eq_2,if_pos (by decide),if_pos (by decide)];have e:AF (ByteArray.mk #[93]) 0=93:=rfl;rw[e];by_cases q:(93:Int)=c
 ·rw[if_pos q,decide_eq_true q.symm];rfl
 ·rw[if_neg q,decide_eq_false (fun h=>q h.symm),Bg.eq_2,if_neg (by decide)];rfl
theorem Un {x:Nat} (h:x<256):tb VZ x=false:=HQ x h
theorem WY {v:Vector Int 4} {x:Nat} (h:x<256) (e:tb v x=true):v≠VZ:=fun q=>by rw[q,Un h]at e;cases e
theorem YF:∃ c,Rj 20000=some c∧Pp 20000 3 VZ VZ=some c∧U c∧c≠VZ:=by
 obtain⟨c,c1,c2,c3⟩:=QT;obtain⟨d,d1,d2,d3⟩:=QS 3 GI GI;have e:c=d:=Mp c2 d2 fun x hx=>by rw[c3 x hx,d3 x hx];unfold RT;simp[HQ x hx]
 subst e;exact⟨c,c1,d1,c2,WY (x:=0) (by omega) (c3 0 (by omega))⟩
theorem YW {c:Nat} (hc:c<256):∃ v,VH 20000 [(c:Int)]=some v∧Nq 20000 (AU (List.replicate 256 false) (c:Int) true)=some v∧U v∧v≠VZ:=by
 obtain⟨v,v1,v2,v3⟩:=Zf [(c:Int)] (fun b hb=>by rw[List.mem_singleton.1 hb];omega) (by simp) 1 0 20000 VZ (by simp) (by omega) GI;obtain⟨d,d1,d2,d3⟩:=O1 (AU (List.replicate 256 false) (c:Int) true);have k:∀ x:Nat,x<256→tb v x=decide (x=c):=fun x hx=>by
  rw[v3 x hx,Un hx,Bool.false_or,List.drop_zero];by_cases q:x=c
  ·rw[decide_eq_true q,decide_eq_true (by rw[q];exact List.mem_singleton.2 rfl)]
  ·rw[decide_eq_false q,decide_eq_false (fun h=>q (by have:=List.mem_singleton.1 h;omega))]
 have e:v=d:=Mp v2 d2 fun x hx=>by
  rw[k x hx,d3 x hx];unfold AU;rw[Int.toNat_natCast,List.getD_eq_getElem?_getD];by_cases q:x=c
  ·subst q;rw[List.getElem?_set_self (by simp;omega)];simp
  ·rw[List.getElem?_set_ne (fun h=>q h.symm),List.getElem?_replicate,if_pos hx];simp[q]
 subst e;exact⟨v,v1,d1,v2,WY hc (by rw[k c hc];simp)⟩
theorem Fp {s:ByteArray} (hz:s.size≤1000) {a:Nat} {c:Int} (h:a<s.size∧AF s (a:Int)=c) (dp:Int):Ka 20000 (Ai.mk s (a:Int) dp) c=some (true,Ai.mk s ((a+1:Nat):Int) dp):=by rw[Tn s hz,if_pos h]
theorem Dk {s:ByteArray} (hz:s.size≤1000) {a:Nat} {c:Int} (h:¬ (a<s.size∧AF s (a:Int)=c)) (dp:Int):Ka 20000 (Ai.mk s (a:Int) dp) c=some (false,Ai.mk s (a:Int) dp):=by rw[Tn s hz,if_neg h]
def VL (v:Vector Int 4) (L:List Bool):Prop:=L.length=256∧U v∧∀ x,x<256→tb v x=L.getD x false
theorem SI (rec_:Int→List Bool→Option (List AE×Int)) (x39:Int) {t:Nat} (ht:t<256):∀ (m i fuel:Nat) (L:List Bool),i+m=t+1→m<fuel→L.length=256→
 ∃ L':List Bool,Cs 20000 rec_ x39 (t:Int) fuel L (i:Int)=rec_ x39 L'∧L'.length=256∧∀ x,x<256→L'.getD x false=(L.getD x false||decide (i≤x∧x≤t))
 | 0,i,fu+1,L,hi,_,hL=>⟨L,by rw[Cs.eq_2,CP (x:=(t:Int)) (by omega) (by omega),if_neg (by omega)],hL,fun x hx=>by rw[decide_eq_false (by omega)];simp⟩
 | m+1,i,fu+1,L,hi,hf,hL=>by
   obtain⟨L',h1,h2,h3⟩:=SI rec_ x39 ht m (i+1) fu (AU L (i:Int) true) (by omega) (by omega) (by rw[Au];exact hL);refine⟨L',?_,h2,fun x hx=>?_⟩
   ·rw[Cs.eq_2,CP (x:=(t:Int)) (by omega) (by omega),if_pos (by omega),if_pos ⟨by omega,by omega⟩,CP (by omega) (by omega)];exact_mod_cast h1
   ·rw[h3 x hx];unfold AU;rw[Int.toNat_natCast,List.getD_eq_getElem?_getD,List.getD_eq_getElem?_getD];by_cases q:i=x
    ·subst q;rw[List.getElem?_set_self (by omega),decide_eq_true (show i≤i∧i≤t by omega)];simp
    ·rw[List.getElem?_set_ne q];congr 1;exact decide_eq_decide.2 (by omega)
def BR (s:ByteArray) (a0:Nat) (dp:Int) (o:Option (List AE×Bool×Ai)) (w:Option (List AE×Int)):Prop:=
 ∃ (l:List AE) (ok:Bool) (a':Nat),o=some (l,ok,Ai.mk s (a':Int) dp)∧a0≤a'∧a'≤s.size∧l.length≤1∧
  (ok=true→a0<a'∧w=some (l,(a':Int))∧∃ v,l=[AE.mk 1 v]∧U v∧v≠VZ)∧(ok=false→∃ z,w=some ([],z))
theorem BR.no {s:ByteArray} {a0 a':Nat} {dp z:Int} {l:List AE} (h:a0≤a') (h2:a'≤s.size) (hl:l.length≤1:=by simp):BR s a0 dp (some (l,false,Ai.mk s (a':Int) dp)) (some ([],z)):=
 ⟨l,false,a',rfl,h,h2,hl,(fun q=>by cases q),fun _=>⟨z,rfl⟩⟩
theorem Tb {s:ByteArray} (hz:s.size≤1000) {a0 a:Nat} (h0:a0≤a) (ha:a≤s.size) (hc:a<s.size→AF s (a:Int)=93) (dp:Int) {v:Vector Int 4} (hv:U v):BR s a0 dp (GK 20000 s (a:Int) dp v) (GY 20000 s (a:Int) v):=by
 unfold GK GY;by_cases q:a<s.size
 ·rw[Fp hz ⟨q,hc q⟩,Option.bind_some,if_pos rfl,if_neg (by omega),Option.bind_some];show BR s a0 dp ((some (decide (v=Vector.replicate 4 (0:Int)))).bind _) _;rw[Option.bind_some];by_cases e:v=Vector.replicate 4 (0:Int)
  ·rw[decide_eq_true e,if_pos rfl];exact BR.no (a':=a+1) (by omega) (by omega)
  ·rw[decide_eq_false e,if_neg (by simp),CP (by omega) (by omega)];exact⟨[AE.mk 1 v],true,a+1,rfl,by omega,by omega,by simp,fun _=>⟨by omega,rfl,v,rfl,hv,e⟩,fun h=>by cases h⟩
 ·rw[Dk hz (fun h=>q h.1),Option.bind_some,if_neg (by simp),if_pos (by omega),Option.bind_some,if_pos rfl];exact BR.no h0 ha
theorem MW {s:ByteArray} (hz:s.size≤1000) (t2:Bool×Ai) (dp:Int) {a0:Nat}:∀ (m a f1 f2:Nat) (v:Vector Int 4) (L:List Bool),s.size-a<m→m≤f1→m≤f2→a0≤a→a≤s.size→VL v L→
 BR s a0 dp (C0 20000 t2 f1 s (a:Int) dp v) (Cd 20000 s t2.1 f2 (a:Int) L)
 | 0,_,_,_,_,_,h,_,_,_,_,_=>by omega
 | m+1,a,f1,f2,v,L,hm,hf1,hf2,h0,ha,hv=>by
   obtain⟨f1,rfl⟩:∃ q,f1=q+1:=⟨f1-1,by omega⟩;obtain⟨f2,rfl⟩:∃ q,f2=q+1:=⟨f2-1,by omega⟩;rw[C0.eq_2,Cd.eq_2,JH s a dp _ (by decide),Option.bind_some,bg];by_cases q:a<s.size∧AF s (a:Int)≠93
   ·
    have qa:=q.1;have e1:(decide (s.size≤a)||decide (AF s (a:Int)=93))=false:=by simp[q.2];omega
    rw[e1,if_pos (by simp),if_pos (by omega),if_pos ⟨by omega,by omega⟩,Option.bind_some,decide_eq_true q.2,if_pos rfl,if_pos ⟨by omega,by omega,Int.le_refl _⟩,Int.toNat_natCast,Int.toNat_natCast,JH s a dp _ (by decide),Option.bind_some];obtain⟨c,ok,n,b1,b2,b3,b4,b5⟩:=I6 s hz ha dp;rw[b2,Option.bind_some,b1];have e2:(decide (s.size≤a)||PD (ByteArray.mk #[94,45,47,34]) (AF s (a:Int)))=PD (ByteArray.mk #[94,45,47,34]) (AF s (a:Int)):=by rw[decide_eq_false (by omega),Bool.false_or]
    rw[e2,if_pos (show 0≤(a:Int)∧(a:Int)<(s.size:Int)from⟨by omega,by omega⟩),LH _ (by decide),Option.bind_some,Option.bind_some];by_cases q2:PD (ByteArray.mk #[94,45,47,34]) (AF s (a:Int))=true
    ·rw[if_pos q2];have:(if(!((c:Int),(n:Int),ok).2.2)=true then some true else some (PD (ByteArray.mk #[94,45,47,34]) (AF s (a:Int))))=some true:=by rw[q2];split<;>rfl
     rw[this,Option.bind_some,if_pos rfl];exact BR.no h0 ha
    ·rw[if_neg q2]
     cases ok with
     | false=>
       show BR s a0 dp (if(!false)=true then some ([],false,Ai.mk s ((a+n:Nat):Int) dp)else _) _;have e9:(if(!((c:Int),(n:Int),false).2.2)=true then some true else some (PD (ByteArray.mk #[94,45,47,34]) (AF s (a:Int))))=some true:=rfl;rw[if_pos (show (!false)=true from rfl),e9,Option.bind_some,if_pos rfl];exact BR.no (by omega) (by omega)
     | true=>
       have n1:=b5 rfl;show BR s a0 dp (if(!true)=true then _ else(Ka 20000 (Ai.mk s ((a+n:Nat):Int) dp) 45).bind _) _;rw[if_neg (by simp),if_neg (by simp),eq_false_of_ne_true q2,Option.bind_some,if_neg (by simp)];have e3:AG ((a:Int)+(n:Int))=((a+n:Nat):Int):=by rw[CP (by omega) (by omega)];rfl
       show BR s a0 dp _ (Option.bind (if AG ((a:Int)+(n:Int))<(s.size:Int)then if 0≤AG ((a:Int)+(n:Int))∧AG ((a:Int)+(n:Int))<(s.size:Int)then some (decide (AF s (AG ((a:Int)+(n:Int)))=45))else none else some false) _);rw[e3];have go:∀ (a2 t:Nat),a+n≤a2→a2≤s.size→c≤t→t<256→BR s a0 dp (FY 20000 (C0 20000 t2 f1) v ((c:Int),true,Ai.mk s ((a+n:Nat):Int) dp) s (a2:Int) dp (t:Int)) (FL 20000 (Cd 20000 s t2.1 f2) L ((c:Int),(n:Int),true) (a2:Int) (t:Int)):=by
        intro a2 t k1 k2 k3 k4;obtain⟨r,r1,r2,r3⟩:=Uh b3 k4;obtain⟨u,u1,u2,u3⟩:=Go.Avl.T8.or_eq hv.2.1 r2;unfold FY FL;show BR s a0 dp ((Rs 20000 (c:Int) (t:Int)).bind _) (Cs 20000 _ (a2:Int) (t:Int) 20000 L (AG (c:Int)));rw[r1,Option.bind_some,u1,Option.bind_some,CP (by omega) (by omega)];obtain⟨L',l1,l2,l3⟩:=SI (Cd 20000 s t2.1 f2) (a2:Int) k4 (t+1-c) c 20000 L (by omega) (by omega) hv.1;rw[l1];exact MW hz t2 dp m a2 f1 f2 u L' (by omega) (by omega) (by omega) (by omega) k2 ⟨l2,u2,fun x hx=>by rw[u3 x hx,r3 x hx,l3 x hx,hv.2.2 x hx]⟩
       by_cases q3:a+n<s.size∧AF s ((a+n:Nat):Int)=45
       ·have q3a:=q3.1;rw[Fp hz q3,Option.bind_some,if_pos rfl,if_pos (by omega),if_pos ⟨by omega,by omega⟩,Option.bind_some,decide_eq_true q3.2,if_pos rfl,JH s (a+n+1) dp _ (by decide),Option.bind_some];have e4:AG (((a+n:Nat):Int)+1)=((a+n+1:Nat):Int):=by rw[CP (by omega) (by omega)];rfl
        rw[e4];by_cases q4:s.size≤a+n+1
        ·rw[if_pos (by simp[q4]),if_pos (by omega),Option.bind_some,if_pos rfl];exact BR.no (by omega) (by omega)
        ·rw[if_neg (show ¬ (s.size:Int)≤((a+n+1:Nat):Int)by omega),if_pos (show 0≤((a+n+1:Nat):Int)∧((a+n+1:Nat):Int)<(s.size:Int)from⟨by omega,by omega⟩),LH _ (by decide),Option.bind_some,Option.bind_some,decide_eq_false q4,Bool.false_or];by_cases q5:PD (ByteArray.mk #[93,94,45,47,34]) (AF s ((a+n+1:Nat):Int))=true
         ·rw[if_pos q5,if_pos q5];exact BR.no (by omega) (by omega)
         ·rw[if_neg q5,if_neg q5,if_pos ⟨by omega,by omega,Int.le_refl _⟩,Int.toNat_natCast];obtain⟨c',ok',n',d1,d2,d3,d4,d5⟩:=I6 s hz (a:=a+n+1) (by omega) dp;show BR s a0 dp ((Mx 20000 (Ai.mk s ((a+n+1:Nat):Int) dp)).bind _) _;rw[d1,d2,Option.bind_some,Option.bind_some]
          cases ok' with
          | false=>
            show BR s a0 dp (Option.bind (if(!false)=true then some true else _) _) (Option.bind (if(!false)=true then some true else _) _);rw[if_pos (show (!false)=true from rfl),Option.bind_some,Option.bind_some,if_pos rfl,if_pos rfl];exact BR.no (by omega) (by omega)
          | true=>
            have n2:=d5 rfl;show BR s a0 dp (Option.bind (if(!true)=true then some true else some (decide ((c':Int)<(c:Int)))) _) (Option.bind (if(!true)=true then some true else some (decide ((c':Int)<(c:Int)))) _);rw[if_neg (by simp),Option.bind_some,Option.bind_some];by_cases q6:(c':Int)<(c:Int)
            ·rw[decide_eq_true q6,if_pos rfl,if_pos rfl];exact BR.no (by omega) (by omega)
            ·rw[decide_eq_false q6,if_neg (by simp),if_neg (by simp)];show BR s a0 dp (FY 20000 _ v _ s ((a+n+1+n':Nat):Int) dp (c':Int)) (FL 20000 _ L _ (AG (((a+n+1:Nat):Int)+(n':Int))) (c':Int));have e5:AG (((a+n+1:Nat):Int)+(n':Int))=((a+n+1+n':Nat):Int):=by rw[CP (by omega) (by omega)];rfl
             rw[e5];exact go (a+n+1+n') c' (by omega) (by omega) (by omega) d3
       ·rw[Dk hz q3,Option.bind_some,if_neg (by simp)];have:(if((a+n:Nat):Int)<(s.size:Int)then if 0≤((a+n:Nat):Int)∧((a+n:Nat):Int)<(s.size:Int)then some (decide (AF s ((a+n:Nat):Int)=45))else none else some false)=some false:=by
         by_cases q4:a+n<s.size
         ·rw[if_pos (by omega),if_pos ⟨by omega,by omega⟩,decide_eq_false (fun h=>q3 ⟨q4,h⟩)]
         ·rw[if_neg (by omega)]
        rw[this,Option.bind_some,if_neg (by simp)];exact go (a+n) c (Nat.le_refl _) b4 (Nat.le_refl _) b3
   ·have e1:(decide (s.size≤a)||decide (AF s (a:Int)=93))=true:=by
     by_cases k:s.size≤a
     ·simp[k]
     ·simp;right;exact Classical.not_not.1 fun h=>q ⟨by omega,h⟩
    have e2:(if(a:Int)<(s.size:Int)then if 0≤(a:Int)∧(a:Int)<(s.size:Int)then some (decide (AF s (a:Int)≠93))else none else some false)=some false:=by
     by_cases k:a<s.size
     ·rw[if_pos (by omega),if_pos ⟨by omega,by omega⟩,decide_eq_false (fun h=>q ⟨k,h⟩)]
     ·rw[if_neg (by omega)]
    rw[e1,if_neg (by simp),e2,Option.bind_some,if_neg (by simp)];have hc:a<s.size→AF s (a:Int)=93:=fun k=>Classical.not_not.1 fun h=>q ⟨k,h⟩;obtain⟨d,d1,d2,d3⟩:=O1 L;have ed:v=d:=Mp hv.2.1 d2 fun x hx=>by rw[hv.2.2 x hx,d3 x hx]
    subst ed;unfold Ik IZ;rw[d1,Option.bind_some]
    cases ht:t2.1 with
    | true=>
      obtain⟨p,p1,p2,p3⟩:=XY hv.2.1;obtain⟨r,r1,r2,r3⟩:=QS 3 hv.2.1 hv.2.1;have e:p=r:=Mp p2 r2 fun x hx=>by rw[p3 x hx,r3 x hx];rfl
      subst e;rw[if_pos rfl,if_pos rfl,p1,r1,Option.bind_some,Option.bind_some];exact Tb hz h0 ha hc dp p2
    | false=>
      rw[if_neg (by simp),if_neg (by simp)];exact Tb hz h0 ha hc dp hv.2.1
theorem QE:VL VZ (List.replicate 256 false):=⟨by simp,GI,fun x hx=>by rw[Un hx,List.getD_eq_getElem?_getD,List.getElem?_replicate,if_pos hx];rfl⟩
theorem ZH {s:ByteArray} (hz:s.size≤1000) {a:Nat} (ha:a≤s.size) (dp:Int):BR s a dp (St 20000 (Ai.mk s (a:Int) dp)) (Tk 20000 s (a:Int)):=by
 unfold St Tk;rw[if_pos (by decide)];by_cases q:a<s.size∧AF s (a:Int)=94
 ·have qa:=q.1;rw[Fp hz q,Option.bind_some,if_pos (by omega),if_pos ⟨by omega,by omega⟩,Option.bind_some,decide_eq_true q.2,if_pos rfl,CP (by omega) (by omega)];obtain⟨l,ok,a',h1,h2,h3,hl,h4,h5⟩:=MW hz (true,Ai.mk s ((a+1:Nat):Int) dp) dp (a0:=a+1) (s.size - (a+1)+1) (a+1) 20000 20000 VZ (List.replicate 256 false) (by omega) (by omega) (by omega) (Nat.le_refl _) (by omega) QE;exact⟨l,ok,a',h1,by omega,h3,hl,fun k=>⟨by have:=(h4 k).1;omega,(h4 k).2⟩,h5⟩
 ·rw[Dk hz q,Option.bind_some];have e:(if(a:Int)<(s.size:Int)then if 0≤(a:Int)∧(a:Int)<(s.size:Int)then some (decide (AF s (a:Int)=94))else none else some false)=some false:=by
   by_cases k:a<s.size
   ·rw[if_pos (by omega),if_pos ⟨by omega,by omega⟩,decide_eq_false (fun h=>q ⟨k,h⟩)]
   ·rw[if_neg (by omega)]
  rw[e,Option.bind_some,if_neg (by simp)];exact MW hz (false,Ai.mk s (a:Int) dp) dp (a0:=a) (s.size-a+1) a 20000 20000 VZ (List.replicate 256 false) (by omega) (by omega) (by omega) (Nat.le_refl _) ha QE
end Go.Avl.T8
