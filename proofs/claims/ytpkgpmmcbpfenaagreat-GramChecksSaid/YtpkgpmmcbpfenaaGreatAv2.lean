/- Parts: Av8, Av9, Av10, Av11, Av12, Av13, Av14, Av15, Av16, Av17, Av18, Av19, Av20, Av21. -/
import Derived.Test.YtpkgpmmcbpfenaaGreatAv1
import Derived.Carry
import Derived.ChangeShapes
import Derived.ChangeMaps
import Derived.ChangeArms
import Derived.Laws.StructEq
import Derived.Orders
import Derived.WalkSpells
import Derived.Laws.Externs
import Derived.ChangeKeysEq
namespace Go.Avl
open Go Go.RowKit
set_option linter.unusedVariables false
inductive EJ (H:AN) (z:Nat):AV→List AV→Prop
 | nil:EJ H z (.fl (.slice none 0 0)) []
 | fz {els}:EJ H z (.fz z els) els
 | own {n off len els} (j:Nat):H[j]? =some (n,.mem (.ar z els))→off+len≤els.length→EJ H z (.own n off len) ((els.drop off).take len)
section
variable {P:Program} {w:World}
theorem Ph {F:Fr} {g:G} {H:AN} {z:Nat} {x:AV} {ys:List AV} (h3:Ak F g H w) (hs:EJ H z x ys) {v:Value} (hv:V g x v):
 ∃ (news:List Value) (A:Option Addr) (cap:Nat),v=.slice A ys.length cap∧AU g (.ar z ys) news∧∀ w',w'.heap=w.heap→(Builtin.firstCells z ys.length v).run P w'=.ok news.toArray w':=by
 cases hs with
 | nil=>
   obtain rfl:v=.slice none 0 0:=hv;exact⟨[],none,0,rfl,AU.arNil,fun w' _=>by simp[Builtin.firstCells]⟩
 | fz=>
   have hv':AU g (.fz z ys) [v]:=hv
   cases hv' with
   | @fz _ _ l b o cap sl hro hc=>
     refine⟨l,_,cap,rfl,sl,fun w' hw=>?_⟩;have hcell:∀ j u,l[j]? =some u→w'.cell? ((⟨b,o,none⟩:Addr).add j)=some u:=fun j u hj=>by
      rw[Addr.add_lit];have:=h3.ro _ _ _ (hro j u hj);simpa [World.cell?,hw]using this
     have:=run_firstCells_some (P:=P) w' z ys.length ⟨b,o,none⟩ ys.length cap l sl.ar_length hcell;simpa using this
   | @fz0 _ ad cap=>
     refine⟨[],ad,cap,rfl,AU.arNil,fun w' _=>?_⟩;cases ad<;>simp[Builtin.firstCells,loadCells,loadCellsFrom]
 | @own n off len els j hj hle=>
   have hlen:((els.drop off).take len).length=len:=by simp;omega
   have hv':AU g (.own n off len) [v]:=hv;obtain⟨p',q1,q2,_⟩:=h3.obj n _ (List.mem_of_getElem? hj)
   cases hv' with
   | @own _ _ _ p b hn hb hlc=>
     obtain rfl:p'=p:=Option.some.inj (q1.symm.trans hn);obtain⟨hz,l,sl,r⟩:=q2;have hez:z=p'.esz:=hz z rfl;rcases r with⟨b',c,T,e1,e2,e3,e4,e5⟩|⟨e1,_⟩
     ·obtain rfl:b'=b:=Option.some.inj (e1.symm.trans hb);obtain⟨m,sm,hm⟩:=sl.ar_slice off (off+len);have heq:(els.take (off+len)).drop off=(els.drop off).take len:=by rw[List.drop_take];congr 1;omega
      rw[heq]at sm;refine⟨m,some ⟨b',p'.base+off*p'.esz,none⟩,p'.cap-off,by rw[hlen],sm,fun w' hw=>?_⟩;have hcell:∀ j u,m[j]? =some u→w'.cell? ((⟨b',p'.base+off*p'.esz,none⟩:Addr).add j)=some u:=fun j u hj=>by
       rw[Addr.add_lit];have:=e5 _ _ (hm j u hj);rw[show p'.base+(off*z+j)=p'.base+off*p'.esz+j by rw[hez];omega]at this;simp[World.cell?,hw,e2,this]
      have:=run_firstCells_some (P:=P) w' z len ⟨b',p'.base+off*p'.esz,none⟩ len (p'.cap-off) m (by rw[sm.ar_length,hlen]) hcell;rw[hlen];simpa using this
     ·rw[e1]at hb;cases hb
   | @own0 _ _ p ad hn hb=>
     refine⟨[],ad,0,by simp,by simpa using AU.arNil,fun w' _=>?_⟩;simp only[List.take_zero,List.length_nil];cases ad<;>simp[Builtin.firstCells,loadCells,loadCellsFrom]
theorem Ht {t u ty e:TypeId} {i:TypeInfo} {d:TypeDesc} (ht:P.underlying t=some (.slice e)) (hu:P.underlying u=some d) (hd:d=.string∨∃ e',d=.slice e') (hi:P.info? e=some i)
 {g o sLen sCap n:Nat} {cur:Array Value} {T:TypeId} (hg:w.heap[g]? =some (.cells cur T (0,0))) {x:Value} {news:List Value} (hlen:(Builtin.lenOf x).run P w=.ok n w) (hx:(Builtin.firstCells i.size n x).run P w=.ok news.toArray w)
 (hl:news.length=n*i.size) (h1:∀ u∈news,u.oneCell'=true) (hroom:sLen+n≤sCap) (hfit:o+sLen*i.size+news.length≤cur.size):
 (Builtin.append_ #[t,u] ty #[.slice (some ⟨g,o,none⟩) sLen sCap,x]).run P w=
   .ok (.slice (some ⟨g,o,none⟩) (sLen+n) sCap) (w.setRow g (cur.toList.take (o+sLen*i.size)++news++cur.toList.drop (o+sLen*i.size+news.length)).toArray):=by
 have hst:=run_storeCells_at P g (o+sLen*i.size) T news 0 cur w hg (by simpa using hfit) h1;simp only[Nat.add_zero]at hst;rcases hd with rfl|⟨e',rfl⟩<;>
 simp[Builtin.append_,run_underlying ht,run_underlying hu,sizeOf,typeInfo,hi,hlen,hroom,hx,Addr.add_lit,hst]
theorem Ee {t u ty e:TypeId} {i:TypeInfo} {d:TypeDesc} {z:Value} (ht:P.underlying t=some (.slice e)) (hu:P.underlying u=some d) (hd:d=.string∨∃ e',d=.slice e') (hi:P.info? e=some i) (hz:i.zero=some z)
 {b:Option Addr} {sLen sCap n:Nat} {x:Value} {olds news:List Value} (hlen:(Builtin.lenOf x).run P w=.ok n w)
 (hs:(Builtin.firstCells i.size sLen (.slice b sLen sCap)).run P w.drew=.ok olds.toArray w.drew) (hx:(Builtin.firstCells i.size n x).run P w.drew=.ok news.toArray w.drew)
 (hg:sCap<sLen+n) (h63:sLen+n≤9223372036854775807) (hfit:Builtin.nextslicecap (sLen+n) sCap*i.bytes≤281474976710656):
 (Builtin.append_ #[t,u] ty #[.slice b sLen sCap,x]).run P w=
   .ok (.slice (some ⟨w.heap.size,0,none⟩) (sLen+n) (grownCap w (sLen+n) sCap e))
    (w.drew.alloc (.cells (olds.toArray++news.toArray++Builtin.zeroCells z.cells (grownCap w (sLen+n) sCap e - (sLen+n))) e)):=by
 have hn:¬ (sLen+n≤sCap):=by omega
 have h63':¬ (9223372036854775807<((sLen:Int)+(n:Int))):=by omega
 have h48':¬ (281474976710656<Builtin.nextslicecap (sLen+n) sCap*i.bytes):=by omega
 rcases hd with rfl|⟨e',rfl⟩<;>
 (simp[Builtin.append_,run_underlying ht,run_underlying hu,sizeOf,typeInfo,zeroValue,hi,hz,hlen,hn,h63',h48',Question.forced,hs,hx,newRow,grownCap,show IntKind.i64.max=9223372036854775807 from rfl]
  congr 2;apply Array.ext'
  simp)
end
theorem AU.append {g:G} {z:Nat}:∀ {a b:List AV} {l m:List Value},AU g (.ar z a) l→AU g (.ar z b) m→AU g (.ar z (a++b)) (l++m)
 | [],b,l,m,s,t=>by cases s;simpa using t
 | c::a,b,l,m,s,t=>by
   cases s with
   | arCons h1 h2 h3=>simpa using AU.arCons h1 h2 (AU.append h3 t)
def BB (P:Program) (T:TypeId):Option Nat:=(P.info? T).map (·.bytes)
section
variable {P:Program} {N:Nat} {ops:Array Oper} {o:Oper} {rest:List Oper} {K:AZ→AN→Prop} {ρ:AZ} {H:AN} {x:AV}
theorem Ga {w:World} {t u ty e:TypeId} {i:TypeInfo} {d:TypeDesc} (ht:P.underlying t=some (.slice e)) (hu:P.underlying u=some d) (hd:d=.string∨∃ e',d=.slice e') (hi:P.info? e=some i) (ad:Option Addr) {x:Value}
 (hlen:(Builtin.lenOf x).run P w=.ok 0 w) (hx:(Builtin.firstCells i.size 0 x).run P w=.ok ([]:List Value).toArray w):(Builtin.append_ #[t,u] ty #[.slice ad 0 0,x]).run P w=.ok (.slice ad 0 0) w:=by
 cases ad<;>rcases hd with rfl|⟨e',rfl⟩<;>
 simp[Builtin.append_,run_underlying ht,run_underlying hu,sizeOf,typeInfo,hi,hlen,hx,storeCells]
set_option maxHeartbeats 1000000 in
theorem Jg {F:Fr} {g:G} {w:World} (h3:Ak F g H w) {t u ty E:TypeId} {dsc:TypeDesc} {z by' n off len:Nat} {els ys els':List AV} {zl:List Value} {i:Nat} {sv xv:Value} {news:List Value}
 (hi:H[i]? =some (n,.mem (.ar z els))) (hsv:AU g (.own n off len) [sv]) (hle:off+len≤els.length)
 (hlen:∀ w',w'.heap=w.heap→(Builtin.lenOf xv).run P w'=.ok ys.length w') (hnews:AU g (.ar z ys) news) (hx:∀ w',w'.heap=w.heap→(Builtin.firstCells z ys.length xv).run P w'=.ok news.toArray w')
 (ht:P.underlying t=some (.slice E)) (hu:P.underlying u=some dsc) (hdsc:dsc=.string∨∃ e',dsc=.slice e') (hz:AX P E=some z) (hby:BB P E=some by') (hzero:Ah P E=some zl) (hzl:zl.length=z)
 (hbound:(len+ys.length)*by'≤140737488355328) (h63:len+ys.length≤9223372036854775807) (hc:(els.drop off).take len++ys=els'):
 ∃ v g' w',(Builtin.append_ #[t,u] ty #[sv,xv]).run P w=.ok v w'∧g.le g'∧V g' (.own g.nm.length 0 (len+ys.length)) v∧Ak F g' (H.set i (g.nm.length,.mem (.ar z els'))) w':=by
 simp only[AX,Option.map_eq_some_iff]at hz;obtain⟨inf,hinf,hsz⟩:=hz;simp only[BB,hinf,Option.map_some,Option.some.injEq]at hby;simp only[Ah,hinf,Option.bind_some,Option.map_eq_some_iff]at hzero;obtain⟨zv,hzv,hzc⟩:=hzero;have hzcs:zv.cells.size=z:=by rw[←hzl, ←hzc];simp
 obtain⟨p',q1,q2,q3⟩:=h3.obj n _ (List.mem_of_getElem? hi);have hxs:∀ w',w'.heap=w.heap→(Builtin.firstCells inf.size ys.length xv).run P w'=.ok news.toArray w':=by rw[hsz];exact hx
 have hnl:news.length=ys.length*inf.size:=by rw[hsz];exact hnews.ar_length
 cases hsv with
 | @own _ _ _ p b hn hb hlc=>
   obtain rfl:p'=p:=Option.some.inj (q1.symm.trans hn);obtain⟨hzz,l,sl,r⟩:=q2;have hez:z=p'.esz:=hzz z rfl;rcases r with⟨b',c,T,e1,e2,e3,e4,e5⟩|⟨e1,_⟩
   ·obtain rfl:b'=b:=Option.some.inj (e1.symm.trans hb);obtain⟨m,sm,hm⟩:=sl.ar_slice off (off+len);have heq:(els.take (off+len)).drop off=(els.drop off).take len:=by rw[List.drop_take];congr 1;omega
    rw[heq]at sm;have hml:m.length=len*z:=by rw[sm.ar_length];congr 1;simp;omega
    have hlt:b'<w.heap.size:=(Array.getElem?_eq_some_iff.1 e2).1;have hmc:∀ j u,m[j]? =some u→c[p'.base+off*z+j]? =some u:=fun j u hj=>by
     have:=e5 _ _ (hm j u hj);rwa [show p'.base+(off*z+j)=p'.base+off*z+j by omega]at this
    by_cases hroom:len+ys.length≤p'.cap-off
    ·have hcap:(off+len+ys.length)*z≤p'.cap*z:=Nat.mul_le_mul_right _ (by omega);rw[←hez]at e3;have hfit:p'.base+off*z+len*inf.size+news.length≤c.size:=by
      rw[hnl,hsz];rw[Nat.add_mul,Nat.add_mul]at hcap;omega
     have hr:=Ht (P:=P) (w:=w) (ty:=ty) (sLen:=len) (sCap:=p'.cap-off) (o:=p'.base+off*z) ht hu hdsc hinf e2 (hlen w rfl) (hxs w rfl) hnl hnews.one hroom hfit;refine⟨_,{g with nm:=g.nm++[⟨some b',p'.base+off*z,p'.cap-off,z⟩]},_,by rw[←hez];exact hr,G.le.push g _,?_,?_⟩
     ·have:=AU.own (g:={g with nm:=g.nm++[⟨some b',p'.base+off*z,p'.cap-off,z⟩]}) (n:=g.nm.length) (off:=0) (len:=len+ys.length) (p:=⟨some b',p'.base+off*z,p'.cap-off,z⟩) (by simp) rfl (by simpa using hroom);exact(by simpa using this:AU _ _ [_])
     ·refine h3.set hi hn (G.le.push g _) (fun _ _=>rfl) rfl rfl rfl (by simp) (fun k hk hne=>setRow_other w b' k _ (fun e=>hne (by rw[e1,e]))) (n':=g.nm.length) (p':=⟨some b',p'.base+off*z,p'.cap-off,z⟩) (by simp) ?_ (fun b e=>.inl (by cases e;exact hb));refine⟨fun z' hz'=>by cases hz';rfl,m++news,?_,.inl ⟨b',_,T,rfl,setRow_heap w b' c _ T _ e2,?_,?_,?_⟩⟩
      ·rw[←hc];exact(sm.append hnews).mono (G.le.push g _)
      ·have:(p'.cap-off)*z=p'.cap*z-off*z:=Nat.sub_mul _ _ _;have h5:off*z≤p'.cap*z:=Nat.mul_le_mul_right _ (by omega);simp only[List.size_toArray,List.length_append,List.length_take,List.length_drop,Array.length_toList];rw[this];omega
      ·simp only[List.size_toArray,List.length_append,List.length_take,List.length_drop,Array.length_toList];rw[hml];rw[hsz]at hfit;omega
      ·intro j v hj;simp only[List.getElem?_toArray];rw[hsz];rcases Nat.lt_or_ge j (len*z)with hlt'|hge
       ·rw[List.getElem?_append_left (by omega)]at hj;rw[List.append_assoc,List.getElem?_append_left (by simp;rw[hsz]at hfit;omega),List.getElem?_take_of_lt (by omega)];simpa using hmc j v hj
       ·rw[List.getElem?_append_right (by omega),hml]at hj;have hjn:j-len*z<news.length:=(List.getElem?_eq_some_iff.1 hj).1;rw[List.append_assoc,List.getElem?_append_right (by simp;rw[hsz]at hfit;omega),List.getElem?_append_left (by simp;rw[hsz]at hfit;omega), ←hj];congr 1;simp
        rw[hsz]at hfit;omega
    ·have hcell:∀ j u,m[j]? =some u→w.drew.cell? ((⟨b',p'.base+off*z,none⟩:Addr).add j)=some u:=fun j u hj=>by
      rw[Addr.add_lit];have:=hmc j u hj;have hh:w.drew.heap=w.heap:=rfl;simp[World.cell?,hh,e2,this]
     have hold:=run_firstCells_some (P:=P) w.drew inf.size len ⟨b',p'.base+off*z,none⟩ len (p'.cap-off) m (by rw[hsz];exact hml) hcell;have hr:=Ee (P:=P) (w:=w) (ty:=ty) (b:=some ⟨b',p'.base+off*z,none⟩) (sLen:=len) (sCap:=p'.cap-off) ht hu hdsc hinf hzv (hlen w rfl) hold (hxs w.drew rfl) (by omega) h63 (by rw[hby];exact growslice_fits (by omega) hbound);have hge:=grownCap_ge w (len+ys.length) (p'.cap-off) E;refine⟨_,{g with nm:=g.nm++[⟨some w.heap.size,0,grownCap w (len+ys.length) (p'.cap-off) E,z⟩]},_,by rw[←hez];exact hr,G.le.push g _,?_,?_⟩
     ·have:=AU.own (g:={g with nm:=g.nm++[⟨some w.heap.size,0,grownCap w (len+ys.length) (p'.cap-off) E,z⟩]}) (n:=g.nm.length) (off:=0) (len:=len+ys.length) (p:=⟨some w.heap.size,0,grownCap w (len+ys.length) (p'.cap-off) E,z⟩) (by simp) rfl (by simpa using hge);exact(by simpa using this:AU _ _ [_])
     ·refine h3.set hi hn (G.le.push g _) (fun _ _=>rfl) rfl rfl rfl (by simp) (fun k hk hne=>Below.heap_alloc w.drew _ k hk) (n':=g.nm.length) (p':=⟨some w.heap.size,0,grownCap w (len+ys.length) (p'.cap-off) E,z⟩) (by simp) ?_ (fun b e=>.inr (by cases e;exact Nat.le_refl _));refine⟨fun z' hz'=>by cases hz';rfl,m++news,?_,.inl ⟨w.heap.size,_,E,rfl,heap_alloc_new w.drew _,?_,?_,?_⟩⟩
      ·rw[←hc];exact(sm.append hnews).mono (G.le.push g _)
      ·simp only[Array.size_append,List.size_toArray,size_zeroCells,hzcs,hml,hnl,hsz,Nat.zero_add];rw[←Nat.add_mul, ←Nat.add_mul];exact Nat.mul_le_mul_right _ (by omega)
      ·simp only[Array.size_append,List.size_toArray,List.length_append];omega
      ·intro j v hj;simp only[Nat.zero_add];have hjl:=(List.getElem?_eq_some_iff.1 hj).1;rw[←Array.getElem?_toList];simp only[Array.toList_append];rw[List.getElem?_append_left (by simpa using hjl)];exact hj
   ·rw[e1]at hb;cases hb
 | @own0 _ _ p ad hn hoc=>
   have hel:els'=ys:=by rw[←hc];simp
   subst hel;by_cases hm:els'.length=0
   ·have hy0:els'=[]:=List.eq_nil_of_length_eq_zero hm;subst hy0;have hn0:news=[]:=List.eq_nil_of_length_eq_zero (by simpa using hnl);subst hn0;have hr:(Builtin.append_ #[t,u] ty #[.slice ad 0 0,xv]).run P w=.ok (.slice ad 0 0) w:=by
     exact Ga ht hu hdsc hinf ad (hlen w rfl) (hxs w rfl)
    refine⟨_,{g with nm:=g.nm++[⟨none,0,0,z⟩]},w,hr,G.le.push g _,?_,?_⟩
    ·exact(AU.own0 (g:={g with nm:=g.nm++[⟨none,0,0,z⟩]}) (n:=g.nm.length) (off:=0) (p:=⟨none,0,0,z⟩) (by simp) (Nat.le_refl _):AU _ _ [_])
    ·exact h3.set hi hn (G.le.push g _) (fun _ _=>rfl) rfl rfl rfl (Nat.le_refl _) (fun _ _ _=>rfl) (n':=g.nm.length) (p':=⟨none,0,0,z⟩) (by simp) ⟨fun z' hz'=>by cases hz';rfl,[],AU.arNil,.inr ⟨rfl,rfl,rfl,rfl⟩⟩ (fun b e=>by cases e)
   ·have hold:(Builtin.firstCells inf.size 0 (.slice ad 0 0)).run P w.drew=.ok ([]:List Value).toArray w.drew:=by
     cases ad<;>simp[Builtin.firstCells,loadCells,loadCellsFrom]
    have hr:=Ee (P:=P) (w:=w) (ty:=ty) (b:=ad) (sLen:=0) (sCap:=0) ht hu hdsc hinf hzv (hlen w rfl) hold (hxs w.drew rfl) (by omega) (by omega) (by rw[hby];exact growslice_fits (by omega) hbound);have hge:=grownCap_ge w (0+els'.length) 0 E;refine⟨_,{g with nm:=g.nm++[⟨some w.heap.size,0,grownCap w (0+els'.length) 0 E,z⟩]},_,hr,G.le.push g _,?_,?_⟩
    ·have:=AU.own (g:={g with nm:=g.nm++[⟨some w.heap.size,0,grownCap w (0+els'.length) 0 E,z⟩]}) (n:=g.nm.length) (off:=0) (len:=0+els'.length) (p:=⟨some w.heap.size,0,grownCap w (0+els'.length) 0 E,z⟩) (by simp) rfl (by show 0+(0+els'.length)≤grownCap w (0+els'.length) 0 E;omega);simp only[Nat.zero_mul,Nat.add_zero,Nat.sub_zero]at this;exact(this:AU _ _ [_])
    ·refine h3.set hi hn (G.le.push g _) (fun _ _=>rfl) rfl rfl rfl (by simp) (fun k hk hne=>Below.heap_alloc w.drew _ k hk) (n':=g.nm.length) (p':=⟨some w.heap.size,0,grownCap w (0+els'.length) 0 E,z⟩) (by simp) ?_ (fun b e=>.inr (by cases e;exact Nat.le_refl _));refine⟨fun z' hz'=>by cases hz';rfl,news,hnews.mono (G.le.push g _),.inl ⟨w.heap.size,_,E,rfl,heap_alloc_new w.drew _,?_,?_,?_⟩⟩
     ·simp only[Array.size_append,List.size_toArray,size_zeroCells,hzcs,hnl,hsz,Nat.zero_add,List.length_nil];rw[←Nat.add_mul];exact Nat.mul_le_mul_right _ (by omega)
     ·simp
     ·intro j v hj;simp only[Nat.zero_add];have hjl:=(List.getElem?_eq_some_iff.1 hj).1;rw[←Array.getElem?_toList];simp only[Array.toList_append];rw[List.getElem?_append_left (by simpa using hjl)];exact hj
theorem AO.append {T U E E':TypeId} {s y:Operand} {z by' n off len:Nat} {els ys:List AV} {xv:AV} {zl:List Value} (i:Nat) (els':List AV) (len':Nat) (hg:o.guard=none) (d:Nat) (hd:o.dst=some d) (hN:d<N)
 (ho:o.op=.call {callee:=.builtin .append,args:= #[s,y],argTypes:= #[T,U]}) (hs:AZ.ev ρ s=some (.own n off len)) (hy:AZ.ev ρ y=some xv) (hi:H[i]? =some (n,.mem (.ar z els))) (hsrc:EJ H z xv ys) (hle:off+len≤els.length)
 (ht:P.underlying T=some (.slice E)) (hu:P.underlying U=some (.slice E')) (hz:AX P E=some z) (hby:BB P E=some by') (hzero:Ah P E=some zl) (hzl:zl.length=z)
 (hbound:(len+ys.length)*by'≤140737488355328) (h63:len+ys.length≤9223372036854775807) (hc:(els.drop off).take len++ys=els') (hl':len+ys.length=len')
 (h:∀ n',AO P N ops rest K ((d,.own n' 0 len')::ρ) (H.set i (n',.mem (.ar z els')))):AO P N ops (o::rest) K ρ H:=
 AO.step hg d hd hN fun F g a w se h3=>by
  obtain⟨news,A,cap,e1,e2,e3⟩:=Ph (P:=P) h3 hsrc (se.ev hy);obtain⟨v,g',w',k1,k2,k3,k4⟩:=Jg (P:=P) (ty:=o.type) h3 hi (se.ev hs) hle (fun w' _=>by rw[e1];rfl) e2 e3 ht hu (.inr ⟨_,rfl⟩) hz hby hzero hzl hbound h63 hc;subst hl';refine⟨v,g',w',_,_,?_,k2,k3,k4,h _⟩;simp[execOp,ho,resolve,invoke,builtin,k1]
end
section
variable {P:Program} {N:Nat} {ops:Array Oper} {o:Oper} {rest:List Oper} {K:AZ→AN→Prop} {ρ:AZ} {H:AN} {x:AV} {c:Code} {Q:Exit→AZ→AN→Prop}
theorem Ak.freeze {F:Fr} {g:G} {w:World} (s:Ak F g H w) {i n z:Nat} {els:List AV} (hi:H[i]? =some (n,.mem (.ar z els))):
 ∃ g',g.le g'∧Ak F g' (H.eraseIdx i) w∧∀ off len v,off+len≤els.length→AU g' (.own n off len) [v]→AU g' (.fz z ((els.drop off).take len)) [v]:=by
 obtain⟨p,q1,q2,q3⟩:=s.obj n _ (List.mem_of_getElem? hi);have hsub:BS (H.eraseIdx i) H:=BS.drop (x:=(n,.mem (.ar z els))) (BS.refl _) |>.trans (BS.front i hi);have s2:=s.sub hsub;obtain⟨hz,l,sl,r⟩:=q2;have hez:z=p.esz:=hz z rfl;rcases r with⟨b,c,T,e1,e2,e3,e4,e5⟩|⟨e1,e6,e7⟩
 ·have hlt:b<w.heap.size:=(Array.getElem?_eq_some_iff.1 e2).1
  let g':G:={ro:=fun b' o'=>if b'=b then c[o']? else g.ro b' o',nm:=g.nm}
  have hle:g.le g':=by
   refine⟨fun b' o' y h=>?_,fun _ _ h=>h⟩;show (if b'=b then c[o']? else g.ro b' o')=some y;by_cases hb:b'=b
   ·subst hb;rw[(q3 b' e1).2 o']at h;cases h
   ·rw[if_neg hb];exact h
  have hnot:∀ m∈H.eraseIdx i,∀ q,g.nm[m.1]? =some q→q.b≠some b:=by
   intro m hm q hq;have hp:=(List.Perm.pairwise_iff (fun {x y} (h:GP g x y)=>h.symm) (FJ hi)).2 s.apart;exact(List.pairwise_cons.1 hp).1 m hm p q b q1 hq e1
  refine⟨g',hle,⟨s2.below,s2.size,fun b' o' y h=>?_,fun b' o' y h1 h2=>?_,fun n' m hm=>?_,?_⟩,?_⟩
  ·have h':(if b'=b then c[o']? else g.ro b' o')=some y:=h;by_cases hb:b'=b
   ·subst hb;rw[if_pos rfl]at h';rw[cell_of_row w b' o' c T (0,0) e2];exact h'
   ·rw[if_neg hb]at h';exact s.ro b' o' y h'
  ·have h':(if b'=b then c[o']? else g.ro b' o')=some y:=h2;by_cases hb:b'=b
   ·subst hb;have:=(q3 b' e1).1;omega
   ·rw[if_neg hb]at h';exact s.r0 b' o' y h1 h'
  ·obtain⟨q,k1,k2,k3⟩:=s2.obj n' m hm;refine⟨q,k1,k2.mono hle,fun b' e=>⟨(k3 b' e).1,fun o'=>?_⟩⟩;show (if b'=b then c[o']? else g.ro b' o')=none;rw[if_neg (fun hb=>hnot _ hm q k1 (by rw[←hb];exact e))];exact(k3 b' e).2 o'
  ·exact s2.apart.imp fun h=>h
  ·intro off len v hle' hv
   cases hv with
   | @own _ _ _ p' b' hn hb hlc=>
     obtain rfl:p=p':=Option.some.inj (q1.symm.trans hn);obtain rfl:b=b':=Option.some.inj (e1.symm.trans hb);obtain⟨m,sm,hm⟩:=sl.ar_slice off (off+len);have heq:(els.take (off+len)).drop off=(els.drop off).take len:=by rw[List.drop_take];congr 1;omega
     rw[heq]at sm;have hlen:((els.drop off).take len).length=len:=by simp;omega
     have:=AU.fz (g:=g') (b:=b) (o:=p.base+off*p.esz) (cap:=p.cap-off) (sm.mono hle) (fun j y hj=>by
      show (if b=b then c[_]? else _)=some y;rw[if_pos rfl];have:=e5 _ _ (hm j y hj)
      rwa [show p.base+(off*z+j)=p.base+off*p.esz+j by rw[hez];omega]at this) (by omega)
     rw[hlen]at this;exact this
   | own0=>simpa using AU.fz0
 ·have hx:els=[]:=List.eq_nil_of_length_eq_zero e7.2;refine⟨g,.refl g,s2,fun off len v hle' hv=>?_⟩
  cases hv with
  | @own _ _ _ p' b' hn hb hlc=>
    obtain rfl:p=p':=Option.some.inj (q1.symm.trans hn);rw[e1]at hb;cases hb
  | own0=>simpa using AU.fz0
theorem AW.freeze (i t:Nat) {n off len z:Nat} {els els':List AV} (hi:H[i]? =some (n,.mem (.ar z els))) (ht:ρ.lookup t=some (.own n off len)) (hle:off+len≤els.length) (hx:(els.drop off).take len=els')
 (h:AW P N c Q ((t,.fz z els')::ρ) (H.eraseIdx i)):AW P N c Q ρ H:=by
 intro F g a w R h1 h2 h3 h4;obtain⟨g',k1,k2,k3⟩:=h3.freeze hi;refine h F g' a w R ?_ h2 k2 fun e g2 ρ' H' a' w' j1 j2 j3 j4 j5 j6=>h4 e g2 ρ' H' a' w' (k1.trans j1) j2 j3 j4 j5 j6;intro u y hu;rw[Aq]at hu;by_cases e:u=t
 ·rw[if_pos e]at hu;cases hu;subst e
  rw[←hx];exact k3 _ _ _ hle ((h1 u _ ht).mono k1)
 ·rw[if_neg e]at hu;exact(h1 u y hu).mono k1
theorem AO.freeze (i t:Nat) {n off len z:Nat} {els els':List AV} (hi:H[i]? =some (n,.mem (.ar z els))) (ht:ρ.lookup t=some (.own n off len)) (hle:off+len≤els.length) (hx:(els.drop off).take len=els')
 (h:AO P N ops rest K ((t,.fz z els')::ρ) (H.eraseIdx i)):AO P N ops rest K ρ H:=by
 intro F g a w R h1 h2 h3 h4;obtain⟨g',k1,k2,k3⟩:=h3.freeze hi;refine h F g' a w R ?_ h2 k2 fun g2 ρ' H' a' w' j1 j2 j3 j4 j5 j6=>h4 g2 ρ' H' a' w' (k1.trans j1) j2 j3 j4 j5 j6;intro u y hu;rw[Aq]at hu;by_cases e:u=t
 ·rw[if_pos e]at hu;cases hu;subst e
  rw[←hx];exact k3 _ _ _ hle ((h1 u _ ht).mono k1)
 ·rw[if_neg e]at hu;exact(h1 u y hu).mono k1
theorem Ak.retell {F:Fr} {g:G} {H H2:AN} {w:World} (s:Ak F g H w) (hn:H2.map (·.1)=H.map (·.1)) (h:∀ n m,(n,m)∈H2→∃ m0,(n,m0)∈H∧∀ p,Bh g w p m0→Bh g w p m):Ak F g H2 w:=by
 refine⟨s.below,s.size,s.ro,s.r0,fun n m hm=>?_,?_⟩
 ·obtain⟨m0,h1,h2⟩:=h n m hm;obtain⟨p,k1,k2,k3⟩:=s.obj n m0 h1;exact⟨p,k1,h2 p k2,k3⟩
 ·have hp:=s.apart;have e:∀ L:AN,L.Pairwise (GP g)↔(L.map (·.1)).Pairwise fun x y=>∀ p q b,g.nm[x]? =some p→g.nm[y]? =some q→p.b=some b→q.b≠some b:=fun L=>by
   rw[List.pairwise_map];rfl
  rw[e,hn, ←e];exact hp
theorem Bh.put {g:G} {w:World} {p:Dv} {X X' y y':AV} {off:Nat} (hp:FI X off y y' X') (hy:y.isAgg=false) (h:∀ v,AU g y [v]→AU g y' [v]) (harz:X'.arz=X.arz) (hcap:X'.capn=X.capn) (s:Bh g w p (.mem X)):Bh g w p (.mem X'):=by
 obtain⟨hz,l,sl,r⟩:=s;obtain⟨q,m,t,rfl,k1,k2,k3⟩:=sl.put (G.le.refl g) hp;obtain⟨v,rfl,_,_⟩:=V1.of_sim_one k2 hy;exact⟨fun z h=>hz z (by rw[←harz];exact h),_,k3 _ (h v k2) rfl,by rw[hcap];exact r⟩
theorem Br {α β:Type} (f:α→β):∀ (l:List α) (i:Nat),(l.eraseIdx i).map f=(l.map f).eraseIdx i
 | [],i=>by simp
 | x::l,0=>by simp
 | x::l,i+1=>by simp[Br f l i]
theorem A0 {α β:Type} (f:α→β):∀ {l:List α} {j:Nat} {a b:α},l[j]? =some a→f b=f a→(l.set j b).map f=l.map f
 | x::l,0,a,b,h,e=>by simp at h;subst h;simp[e]
 | x::l,j+1,a,b,h,e=>by simp at h;simp[A0 f h e]
theorem AW.coeFld (j:Nat) {m off:Nat} {X X' y y':AV} (hj:H[j]? =some (m,.mem X)) (hp:FI X off y y' X') (hy:y.isAgg=false) (hc:∀ g v,AU g y [v]→AU g y' [v]) (harz:X'.arz=X.arz) (hcap:X'.capn=X.capn)
 (h:AW P N c Q ρ (H.set j (m,.mem X'))):AW P N c Q ρ H:=by
 intro F g a w R h1 h2 h3 h4;refine h F g a w R h1 h2 (h3.retell (A0 _ hj rfl) fun n m' hm=>?_) h4;rcases List.mem_or_eq_of_mem_set hm with h|h
 ·exact⟨m',h,fun _ h=>h⟩
 ·cases h;exact⟨.mem X,List.mem_of_getElem? hj,fun p h=>h.put hp hy (hc g) harz hcap⟩
theorem AO.coeFld (j:Nat) {m off:Nat} {X X' y y':AV} (hj:H[j]? =some (m,.mem X)) (hp:FI X off y y' X') (hy:y.isAgg=false) (hc:∀ g v,AU g y [v]→AU g y' [v]) (harz:X'.arz=X.arz) (hcap:X'.capn=X.capn)
 (h:AO P N ops rest K ρ (H.set j (m,.mem X'))):AO P N ops rest K ρ H:=by
 intro F g a w R h1 h2 h3 h4;refine h F g a w R h1 h2 (h3.retell (A0 _ hj rfl) fun n m' hm=>?_) h4;rcases List.mem_or_eq_of_mem_set hm with h|h
 ·exact⟨m',h,fun _ h=>h⟩
 ·cases h;exact⟨.mem X,List.mem_of_getElem? hj,fun p h=>h.put hp hy (hc g) harz hcap⟩
theorem AW.coe (t:Nat) {y y':AV} (ht:ρ.lookup t=some y) (hc:∀ g v,V g y v→V g y' v) (h:AW P N c Q ((t,y')::ρ) H):AW P N c Q ρ H:=by
 intro F g a w R h1 h2 h3 h4;refine h F g a w R (fun u z hu=>?_) h2 h3 h4;rw[Aq]at hu;by_cases e:u=t
 ·rw[if_pos e]at hu;cases hu;subst e;exact hc g _ (h1 u _ ht)
 ·rw[if_neg e]at hu;exact h1 u z hu
theorem AO.coe (t:Nat) {y y':AV} (ht:ρ.lookup t=some y) (hc:∀ g v,V g y v→V g y' v) (h:AO P N ops rest K ((t,y')::ρ) H):AO P N ops rest K ρ H:=by
 intro F g a w R h1 h2 h3 h4;refine h F g a w R (fun u z hu=>?_) h2 h3 h4;rw[Aq]at hu;by_cases e:u=t
 ·rw[if_pos e]at hu;cases hu;subst e;exact hc g _ (h1 u _ ht)
 ·rw[if_neg e]at hu;exact h1 u z hu
theorem DL (z:Nat) (g:G) (v:Value) (h:AU g (.fl (.slice none 0 0)) [v]):AU g (.fz z []) [v]:=by cases h;exact AU.fz0
theorem Lp (z:Nat) (g:G) (v:Value) (h:V g (.fl (.slice none 0 0)) v):V g (.fz z []) v:=by
 obtain rfl:v=.slice none 0 0:=h;exact(AU.fz0:AU g _ [_])
theorem AW.freezeFld (i j:Nat) {m o' n off len z:Nat} {els els':List AV} {X X':AV} (hi:H[i]? =some (n,.mem (.ar z els))) (hj:H[j]? =some (m,.mem X)) (hp:FI X o' (.own n off len) (.fz z els') X') (hle:off+len≤els.length) (hx:(els.drop off).take len=els')
 (harz:X'.arz=X.arz) (hcap:X'.capn=X.capn) (hij:i≠j) (h:AW P N c Q ρ ((H.set j (m,.mem X')).eraseIdx i)):AW P N c Q ρ H:=by
 intro F g a w R h1 h2 h3 h4;obtain⟨g',k1,k2,k3⟩:=h3.freeze hi;refine h F g' a w R (h1.mono k1) h2 ?_ fun e g2 ρ' H' a' w' j1 j2 j3 j4 j5 j6=>h4 e g2 ρ' H' a' w' (k1.trans j1) j2 j3 j4 j5 j6;refine k2.retell ?_ fun n' m' hm=>?_
 ·rw[Br,Br,A0 (fun x:Nat×EX=>x.1) hj (b:=(m,.mem X')) rfl]
 ·rw[List.mem_eraseIdx_iff_getElem?]at hm;obtain⟨k,hk,e⟩:=hm;by_cases hkj:j=k
  ·subst hkj;rw[List.getElem?_set_self (List.getElem?_eq_some_iff.1 hj).1]at e;cases e;refine⟨.mem X,List.mem_eraseIdx_iff_getElem?.2 ⟨j,hk,hj⟩,fun p s=>s.put hp rfl (fun v hv=>?_) harz hcap⟩;rw[←hx];exact k3 _ _ _ hle hv
  ·rw[List.getElem?_set_ne hkj]at e;exact⟨m',List.mem_eraseIdx_iff_getElem?.2 ⟨k,hk,e⟩,fun _ s=>s⟩
theorem DQ {F:Fr} {g:G} {w:World} (h3:Ak F g H w) (z:Nat):Ak F {g with nm:=g.nm++[⟨none,0,0,z⟩]} ((g.nm.length,.mem (.ar z []))::H) w:=
 h3.cons (Below.refl _ _) _ _ (fun b e=>by cases e) ⟨fun z' h=>by cases h;rfl,[],AU.arNil,.inr ⟨rfl,rfl,rfl,rfl⟩⟩
theorem Gt (g:G) (z:Nat):AU {g with nm:=g.nm++[⟨none,0,0,z⟩]} (.own g.nm.length 0 0) [.slice none 0 0]:=
 AU.own0 (g:={g with nm:=g.nm++[⟨none,0,0,z⟩]}) (n:=g.nm.length) (off:=0) (p:=⟨none,0,0,z⟩) (by simp) (Nat.le_refl _)
theorem AW.nilOwn (t z:Nat) (ht:ρ.lookup t=some (.fl (.slice none 0 0))) (h:∀ n,AW P N c Q ((t,.own n 0 0)::ρ) ((n,.mem (.ar z []))::H)):AW P N c Q ρ H:=by
 intro F g a w R h1 h2 h3 h4;refine h g.nm.length F _ a w R (fun u y hu=>?_) h2 (DQ h3 z) fun e g2 ρ' H' a' w' j1 j2 j3 j4 j5 j6=>h4 e g2 ρ' H' a' w' ((G.le.push g _).trans j1) j2 j3 j4 j5 j6;rw[Aq]at hu;by_cases e:u=t
 ·rw[if_pos e]at hu;cases hu;subst e
  have e2:a.tmps.getD u undef=.slice none 0 0:=h1 u _ ht;rw[e2];exact Gt g z
 ·rw[if_neg e]at hu;exact(h1 u y hu).mono (G.le.push g _)
theorem AO.nilOwn (t z:Nat) (ht:ρ.lookup t=some (.fl (.slice none 0 0))) (h:∀ n,AO P N ops rest K ((t,.own n 0 0)::ρ) ((n,.mem (.ar z []))::H)):AO P N ops rest K ρ H:=by
 intro F g a w R h1 h2 h3 h4;refine h g.nm.length F _ a w R (fun u y hu=>?_) h2 (DQ h3 z) fun g2 ρ' H' a' w' j1 j2 j3 j4 j5 j6=>h4 g2 ρ' H' a' w' ((G.le.push g _).trans j1) j2 j3 j4 j5 j6;rw[Aq]at hu;by_cases e:u=t
 ·rw[if_pos e]at hu;cases hu;subst e
  have e2:a.tmps.getD u undef=.slice none 0 0:=h1 u _ ht;rw[e2];exact Gt g z
 ·rw[if_neg e]at hu;exact(h1 u y hu).mono (G.le.push g _)
theorem AW.nilOwnFld (j z:Nat) {m o':Nat} {X:AV} (X':Nat→AV) (hj:H[j]? =some (m,.mem X)) (hp:∀ n,FI X o' (.fl (.slice none 0 0)) (.own n 0 0) (X' n)) (harz:∀ n,(X' n).arz=X.arz) (hcap:∀ n,(X' n).capn=X.capn)
 (h:∀ n,AW P N c Q ρ ((n,.mem (.ar z []))::H.set j (m,.mem (X' n)))):AW P N c Q ρ H:=by
 intro F g a w R h1 h2 h3 h4;have hs:=DQ h3 z;refine h g.nm.length F {g with nm:=g.nm++[⟨none,0,0,z⟩]} a w R (h1.mono (G.le.push g _)) h2 ?_ fun e g2 ρ' H' a' w' j1 j2 j3 j4 j5 j6=>h4 e g2 ρ' H' a' w' ((G.le.push g _).trans j1) j2 j3 j4 j5 j6;refine hs.retell (by simp[A0 _ hj]) fun n' m' hm=>?_;rcases List.mem_cons.1 hm with e|hm
 ·cases e;exact⟨_,List.mem_cons_self,fun _ s=>s⟩
 ·rcases List.mem_or_eq_of_mem_set hm with e|e
  ·exact⟨m',List.mem_cons_of_mem _ e,fun _ s=>s⟩
  ·cases e;refine⟨.mem X,List.mem_cons_of_mem _ (List.mem_of_getElem? hj),fun p s=>s.put (hp _) rfl (fun v hv=>?_) (harz _) (hcap _)⟩;cases hv;exact Gt g z
end
section
variable {P:Program} {N:Nat} {ops:Array Oper} {o:Oper} {rest:List Oper} {K:AZ→AN→Prop} {ρ:AZ} {H:AN} {x:AV} {c:Code} {Q:Exit→AZ→AN→Prop}
theorem AO.make {T E:TypeId} {y1 y2:Operand} {k1 k2:IntKind} {l cp:Int} {z by':Nat} {zl:List Value} {Z:AV} (hg:o.guard=none) (d:Nat) (hd:o.dst=some d) (hN:d<N) (ho:o.op=.makeSlice T y1 y2) (hy1:AZ.ev ρ y1=some (.fl (.int k1 l))) (hy2:AZ.ev ρ y2=some (.fl (.int k2 cp)))
 (ht:P.underlying T=some (.slice E)) (hz:AX P E=some z) (hby:BB P E=some by') (hzero:Ah P E=some zl) (hzl:zl.length=z) (hZ:∀ g,AU g Z zl) (h0:0≤l) (h1:l≤cp) (hb:(by':Int)*cp≤281474976710656) (h63:cp≤9223372036854775807)
 (h:∀ n,AO P N ops rest K ((d,.own n 0 l.toNat)::ρ) ((n,.mem (.ar z (List.replicate l.toNat Z)))::H)):AO P N ops (o::rest) K ρ H:=
 AO.step hg d hd hN fun F g a w s h3=>by
  have e1:a.eval y1=.int k1 l:=s.ev hy1;have e2:a.eval y2=.int k2 cp:=s.ev hy2;simp only[AX,Option.map_eq_some_iff]at hz;obtain⟨inf,hinf,hsz⟩:=hz;simp only[BB,hinf,Option.map_some,Option.some.injEq]at hby;simp only[Ah,hinf,Option.bind_some,Option.map_eq_some_iff]at hzero;obtain⟨zv,hzv,hzc⟩:=hzero;have hr:=run_make (P:=P) w T E inf zv ht hinf hzv k1 k2 l cp h0 h1 (by rw[hby];exact hb) h63;have hrep:∀ k,AU g (.ar z (List.replicate k Z)) (List.replicate k zl).flatten:=by
   intro k
   induction k with
   | zero=>exact AU.arNil
   | succ k ih=>simpa [List.replicate_succ]using AU.arCons (hZ g) hzl ih
  have hb':Below w.heap.size w (w.alloc (.cells (madeCells zv.cells (cp.toNat*inf.size)) E)):=(Below.refl _ _).alloc (Nat.le_refl _) _;have hcell:∀ (j:Nat) y,(List.replicate l.toNat zl).flatten[j]? =some y→(madeCells zv.cells (cp.toNat*inf.size))[j]? =some y:=by
   intro j y hj;have hfl:(List.replicate l.toNat zl).flatten.length=l.toNat*z:=by simp[hzl]
   have hjl:j<l.toNat*z:=by rw[←hfl];exact(List.getElem?_eq_some_iff.1 hj).1
   have hz0:0<z:=Nat.pos_of_ne_zero fun e=>by rw[e]at hjl;simp at hjl
   have hjm:j%z<z:=Nat.mod_lt _ hz0;have e2:∀ (k j:Nat),j<k*z→(List.replicate k zl).flatten[j]? =zl[j%z]? :=by
    intro k
    induction k with
    | zero=>intro j h;simp at h
    | succ k ih=>
      intro j h;rw[List.replicate_succ,List.flatten_cons];rcases Nat.lt_or_ge j z with h'|h'
      ·rw[List.getElem?_append_left (by omega),Nat.mod_eq_of_lt h']
      ·rw[List.getElem?_append_right (by omega),hzl,ih (j-z) (by rw[Nat.add_mul]at h;omega),Nat.mod_eq_sub_mod h']
   have hjc:j<cp.toNat*inf.size:=by rw[hsz];exact Nat.lt_of_lt_of_le hjl (Nat.mul_le_mul_right _ (by omega))
   have hzcs:zv.cells.size=z:=by rw[←hzl, ←hzc];simp
   have h5:zl[j%z]? =some y:=by rw[←e2 _ _ hjl];exact hj
   have h6:zv.cells[j%z]? =some y:=by rw[←hzc]at h5;simpa using h5
   have h7:zv.cells[j%zv.cells.size]! =y:=by
    rw[hzcs,getElem!_pos _ _ (by rw[hzcs];exact hjm)];exact(Array.getElem?_eq_some_iff.1 h6).2
   simp[madeCells,hjc,h7]
  refine⟨.slice (some ⟨w.heap.size,0,none⟩) l.toNat cp.toNat,{g with nm:=g.nm++[⟨some w.heap.size,0,cp.toNat,(AV.ar z (List.replicate l.toNat Z)).arz.getD 1⟩]},_,_,_,?_,G.le.push g _,?_,h3.new hb' (hrep l.toNat) (Nat.le_refl _) (heap_alloc_new w _) (cap:=cp.toNat) (by simp[AV.arz,size_madeCells,hsz]) hcell,h _⟩
  ·simp[execOp,ho,e1,e2,hr]
  ·have:=AU.own (g:={g with nm:=g.nm++[⟨some w.heap.size,0,cp.toNat,(AV.ar z (List.replicate l.toNat Z)).arz.getD 1⟩]}) (n:=g.nm.length) (off:=0) (len:=l.toNat) (p:=⟨some w.heap.size,0,cp.toNat,z⟩) (by simp[AV.arz]) rfl (by simp;omega);exact(by simpa using this:AU _ _ [_])
end
section
variable {P:Program} {N:Nat} {ops:Array Oper} {o:Oper} {rest:List Oper} {K:AZ→AN→Prop} {ρ:AZ} {H:AN} {x:AV} {c:Code} {Q:Exit→AZ→AN→Prop}
end
def g0 (W:World):G:=⟨fun b o=>W.cell? ⟨b,o,none⟩,[]⟩
theorem Ty (W:World):∀ b o y,(g0 W).ro b o=some y→W.cell? ⟨b,o,none⟩=some y:=fun _ _ _ h=>h
def BT (P:Program) (t:TypeId) {α:Type} (x:α→AV) (wf:α→Prop):Prop:=
 ∀ (H:Type) (enc:TypeId×Value→H) (W:World) (base:Nat) (spare:Nat→Bool) (held:Bool) (fuel:Nat) (cs:List Value) (y:DataW H×List MemPlace),
  DataW.trod enc P W base spare held fuel t cs=some y→∃ a:α,AU (g0 W) (x a) cs∧wf a
theorem FQ {P:Program} {t:TypeId} {z:Nat} (h:AX P t=some z):P.cellsOf t=z:=by
 have:P.cellsOf t=(AX P t).getD 0:=rfl;rw[this,h];rfl
section
variable {P:Program} {t:TypeId}
theorem BT.map {α β:Type} {x:α→AV} {y:β→AV} {wf:α→Prop} {wf':β→Prop} (h:BT P t x wf) (f:α→β) (hf:∀ a,y (f a)=x a) (hw:∀ a,wf a→wf' (f a)):BT P t y wf':=
 fun H enc W base spare held fuel cs d hd=>let⟨a,h1,h2⟩:=h H enc W base spare held fuel cs d hd;⟨f a,by rw[hf];exact h1,hw a h2⟩
theorem MF {k:IntKind} (ht:P.underlying t=some (.int k)):BT P t (fun n:Int=>.fl (.int k n)) (fun n=>(Lit.int k n).wf=true):=by
 intro H enc W base spare held fuel cs y hd;obtain⟨n,rfl,_,hw⟩:=DataW.trod_int ht hd;exact⟨n,AU.fl rfl,hw⟩
theorem KX (ht:P.underlying t=some .bool):BT P t (fun b:Bool=>.fl (.bool b)) (fun _=>True):=by
 intro H enc W base spare held fuel cs y hd;obtain⟨b,rfl,_⟩:=DataW.trod_bool ht hd;exact⟨b,AU.fl rfl,trivial⟩
theorem I7 (ht:P.underlying t=some .string):BT P t (fun s:ByteArray=>.fl (.string s)) (fun s=>s.size≤9223372036854775807):=by
 intro H enc W base spare held fuel cs y hd;obtain⟨s,rfl,_,hs⟩:=DataW.trod_string ht hd;exact⟨s,AU.fl rfl,by simpa [maxLen]using hs⟩
theorem B4 {e:TypeId} {α:Type} {x:α→AV} {wf:α→Prop} {z:Nat} (ht:P.underlying t=some (.slice e)) (hz:AX P e=some (z+1)) (he:BT P e x wf):
 BT P t (fun l:List α=>.fz (z+1) (l.map x)) (fun l=>l.length≤9223372036854775807∧∀ a∈l,wf a):=by
 intro H enc W base spare held fuel cs y hd;rcases DataW.trod_slice ht hd with⟨rfl,_⟩|⟨⟨b,off,sp⟩,len,cap,elems,rest,n,rfl,rfl,_,_,hlc,hcm,hlen,hel,_⟩
 ·exact⟨[],AU.fz0,by simp⟩
 ·rw[FQ hz]at hel;by_cases h0:len=0
  ·subst h0;exact⟨[],AU.fz0,by simp⟩
  have hel1:∀ i,i<len→∃ a ci,wf a∧AU (g0 W) (x a) ci∧ci.length=z+1∧∀ j,j<z+1→W.cell? (((⟨b,off,sp⟩:Addr).add (i*(z+1))).add j)=ci[j]? :=by
   intro i hi;have h1:=hel i hi;have h2:elems[i]? =some elems[i]:=List.getElem?_eq_getElem (by omega);rw[h2,Option.bind_eq_some_iff]at h1;obtain⟨ci,hci,htr⟩:=h1;obtain⟨a,ha1,ha2⟩:=he H enc W base spare held n ci _ htr;obtain⟨_,k1,k2⟩:=World.cells?_some hci;exact⟨a,ci,ha2,ha1,k1,k2⟩
  have hsp:sp=none:=by
   obtain⟨a,ci,_,_,k1,k2⟩:=hel1 0 (by omega);have:=k2 0 (by omega);rw[List.getElem?_eq_getElem (by omega)]at this
   cases sp with
   | none=>rfl
   | some q=>simp[World.cell?,Addr.add]at this;split at this<;>cases this
  subst hsp;have hel2:∀ i,i<len→∃ a ci,wf a∧AU (g0 W) (x a) ci∧ci.length=z+1∧∀ (j:Nat) y,ci[j]? =some y→(g0 W).ro b (off+(i*(z+1)+j))=some y:=by
   intro i hi;obtain⟨a,ci,h1,h2,h3,h4⟩:=hel1 i hi;refine⟨a,ci,h1,h2,h3,fun j y hy=>?_⟩;have hj:j<ci.length:=(List.getElem?_eq_some_iff.1 hy).1;have:=h4 j (by omega);rw[Addr.add_lit,Addr.add_lit,hy]at this;show W.cell? _=_;rw[←this,Nat.add_assoc]
  have key:∀ k,k≤len→∃ (l:List α) (m:List Value),l.length=k∧(∀ a∈l,wf a)∧AU (g0 W) (.ar (z+1) (l.map x)) m∧∀ (j:Nat) y,m[j]? =some y→(g0 W).ro b (off+j)=some y:=by
   intro k
   induction k with
   | zero=>intro _;exact⟨[],[],rfl,by simp,AU.arNil,by simp⟩
   | succ k ih=>
     intro hk;obtain⟨l,m,h1,h2,h3,h4⟩:=ih (by omega);obtain⟨a,ci,k1,k2,k3,k4⟩:=hel2 k (by omega);have hml:m.length=k*(z+1):=by rw[h3.ar_length];simp[h1]
     have hone:AU (g0 W) (.ar (z+1) [x a]) ci:=by simpa using AU.arCons k2 k3 AU.arNil
     refine⟨l++[a],m++ci,by simp[h1],?_,by simpa using h3.append hone,fun j y hy=>?_⟩
     ·intro c hc;rcases List.mem_append.1 hc with h|h
      ·exact h2 c h
      ·simp at h;subst h;exact k1
     ·rcases Nat.lt_or_ge j m.length with hlt|hge
      ·rw[List.getElem?_append_left hlt]at hy;exact h4 j y hy
      ·rw[List.getElem?_append_right hge]at hy;have:=k4 _ y hy;rwa [show off+(k*(z+1)+(j-m.length))=off+j by omega]at this
  obtain⟨l,m,h1,h2,h3,h4⟩:=key len (Nat.le_refl _);refine⟨l,?_,by rw[h1];simp[maxLen]at hcm;omega,h2⟩;have:=AU.fz (cap:=cap) h3 h4 (by simpa [h1]using hlc);simpa [h1]using this
def JA (P:Program) (off total:Nat) (fs:List Field) {β:Type} (x:β→List (Nat×AV)) (wf:β→Prop):Prop:=
 ∀ (H:Type) (enc:TypeId×Value→H) (W:World) (base:Nat) (spare:Nat→Bool) (held:Bool) (fuel:Nat) (cs:List Value),cs.length=total→
  (∀ (i:Nat) (f:Field),fs[i]? =some f→∃ y,DataW.trod enc P W base spare held fuel f.type ((cs.drop f.offset).take (P.cellsOf f.type))=some y)→∃ b:β,AU (g0 W) (.st (x b)) (cs.drop off)∧wf b
theorem DB (n:Nat):JA P n n [] (fun _:Unit=>[]) (fun _=>True):=by
 intro H enc W base spare held fuel cs hl _;exact⟨(),by rw[List.drop_of_length_le (by omega)];exact AU.stNil,trivial⟩
theorem Af {off total k:Nat} {f:Field} {fs:List Field} {α β:Type} {x:α→AV} {wf:α→Prop} {y:β→List (Nat×AV)} {wf':β→Prop} (hf:f.offset=off) (hk:AX P f.type=some k) (hle:off+k≤total)
 (h:BT P f.type x wf) (hr:JA P (off+k) total fs y wf'):JA P off total (f::fs) (fun p:α×β=>(k,x p.1)::y p.2) (fun p=>wf p.1∧wf' p.2):=by
 intro H enc W base spare held fuel cs hl ha;obtain⟨y0,h0⟩:=ha 0 f rfl;rw[hf,FQ hk]at h0;obtain⟨a,ha1,ha2⟩:=h H enc W base spare held fuel _ _ h0;obtain⟨b,hb1,hb2⟩:=hr H enc W base spare held fuel cs hl (fun i g hg=>ha (i+1) g (by simpa using hg));refine⟨(a,b),?_,ha2,hb2⟩;have:=AU.stCons (k:=k) ha1 (by simp;omega) hb1;rwa [show (cs.drop off).take k++cs.drop (off+k)=cs.drop off by rw[←List.drop_drop,List.take_append_drop]]at this
theorem CB {fs:List Field} {n:Nat} {β:Type} {y:β→List (Nat×AV)} {wf:β→Prop} (ht:P.underlying t=some (.struct fs.toArray)) (hz:AX P t=some n) (h:JA P 0 n fs y wf):BT P t (fun b:β=>.st (y b)) wf:=by
 intro H enc W base spare held fuel cs d hd;obtain⟨xs,m,rfl,_,hl,hxl,hx⟩:=DataW.trod_struct ht hd;rw[FQ hz]at hl
 obtain⟨b,h1,h2⟩:=h H enc W base spare held m cs hl (fun i f hf=>by
  have:=hx i f (by simpa using hf);have hi:i<fs.length:=(List.getElem?_eq_some_iff.1 hf).1;rw[List.getElem?_eq_getElem (by simp at hxl;omega)]at this
  exact⟨_,this⟩)
 exact⟨b,by simpa using h1,h2⟩
theorem BT.arg {α:Type} {x:α→AV} {wf:α→Prop} (h:BT P t x wf) (hagg:∀ a,Ao P t=some (x a).isAgg) {r:Reach} {b0 base:Nat} {W:World} {H:Type} {enc:TypeId×Value→H} {spare:Nat→Bool} {held:Bool} {v:Value} {d:DataW H} {ps:List MemPlace}
 (hval:Value.okWide P W r b0 t v) (hd:DataW.Trod enc P W base spare held t v d ps):∃ a:α,V1 (g0 W) (x a) v∧wf a:=by
 obtain⟨fuel,hd⟩:=hd;obtain⟨a,h1,h2⟩:=h H enc W base spare held fuel _ _ hd;refine⟨a,?_,h2⟩;have ha:=hagg a;simp only[Ao,Option.map_eq_some_iff]at ha;obtain⟨dsc,hu,hda⟩:=ha;unfold Value.okWide at hval;rw[hu]at hval
 cases hx:(x a).isAgg with
 | true=>
   rw[hx]at hda;have:∃ cs,v=.agg cs:=by
    cases dsc<;>simp at hda
    ·obtain⟨cs,h,_⟩:=hval;exact⟨cs,h⟩
    ·obtain⟨cs,h,_⟩:=hval;exact⟨cs,h⟩
   obtain⟨cs,rfl⟩:=this;have:=V1.of_sim_agg h1 hx;simpa [Value.cells]using this
 | false=>
   obtain⟨u,hc,hv,h1c⟩:=V1.of_sim_one h1 hx;have:v=u:=by
    cases v with
    | agg cs=>
      exfalso;rw[hx]at hda;cases dsc<;>simp[Cell.okWide,Cell.ok,hu]at hval hda
    | _=>simp[Value.cells]at hc;exact hc
   rw[this];exact hv
end
theorem AM.law {P:Program} {f:FuncId} {xs:List AV} {args:Array Value} {W:World} (h:AM P f xs (.fl (.bool true))) (ht:JO W) (ha:Bs (V1 (g0 W)) xs args.toList):
 Calls P f args W fun e W'=>e=.returned (.bool true)∧Below W.heap.size W W':=by
 have:=h (g0 W) args.toList W ha (Ty W) ht;simp only[Array.toArray_toList]at this;exact this.mono fun e w' ⟨v,g',he,_,hv,_,_,hb⟩=>⟨by rw[he];exact congrArg _ hv,hb⟩
abbrev AA (n:Int):AV:=.fl (.int .i64 n)
abbrev AY (n:Int):AV:=.fl (.int .u8 n)
abbrev AL (n:Int):AV:=.fl (.int .u64 n)
abbrev AB (b:Bool):AV:=.fl (.bool b)
abbrev AI (s:ByteArray):AV:=.fl (.string s)
def AC {α:Type} [Inhabited α] (l:List α) (i:Int):α:=l.getD i.toNat default
def Ac {α:Type} (l:List α) (i:Int) (x:α):List α:=l.set i.toNat x
def Ag {α:Type} [Inhabited α] {n:Nat} (v:Vector α n) (i:Int):α:=v.toList.getD i.toNat default
def BG {α:Type} {n:Nat} (v:Vector α n) (i:Int) (x:α):Vector α n:=v.setIfInBounds i.toNat x
def Bd {α:Type} (l:List α) (i j:Int):List α:=(l.take j.toNat).drop i.toNat
theorem Hd {α β:Type} [Inhabited α] (f:α→β) (l:List α) (i:Int) (h0:0≤i) (h1:i<(l.length:Int)):(l.map f)[i.toNat]? =some (f (AC l i)):=by
 have:i.toNat<l.length:=by omega
 simp[AC,this,List.getD]
theorem Jf {α β:Type} [Inhabited α] {n:Nat} (f:α→β) (v:Vector α n) (i:Int) (h0:0≤i) (h1:i<(n:Int)):(v.toList.map f)[i.toNat]? =some (f (Ag v i)):=by
 have:i.toNat<n:=by omega
 simp[Ag,this,List.getD]
theorem NH {α β:Type} {n:Nat} (f:α→β) (v:Vector α n) (i:Int) (x:α):(v.toList.map f).set i.toNat (f x)=(BG v i x).toList.map f:=by
 simp[BG]
theorem PB {α β:Type} (f:α→β) (l:List α) (i:Int) (x:α):(l.map f).set i.toNat (f x)=(Ac l i x).map f:=by
 simp[Ac]
theorem NR {α β:Type} (f:α→β) (l:List α) (i j:Int):((l.map f).take j.toNat).drop i.toNat=(Bd l i j).map f:=by
 simp[Bd,List.map_drop,List.map_take]
theorem AD {α:Type} {c:Prop} [Decidable c] {x:Option α} {r:α} (h:(if c then x else none)=some r):c∧x=some r:=by
 split at h
 ·exact⟨‹_›,h⟩
 ·cases h
theorem P6 {α β:Type} {o:Option α} {f:α→Option β} {r:β} (h:o.bind f=some r):∃ t,o=some t∧f t=some r:=Option.bind_eq_some_iff.1 h
section
variable {P:Program} {N:Nat} {ops:Array Oper} {o:Oper} {rest:List Oper} {K K':AZ→AN→Prop} {ρ:AZ} {H:AN} {x:AV} {c c':Code} {Q:Exit→AZ→AN→Prop}
theorem AO.mono (h:AO P N ops rest K ρ H) (hk:∀ ρ H,K ρ H→K' ρ H):AO P N ops rest K' ρ H:=
 fun F g a w Q h1 h2 h3 h4=>h F g a w Q h1 h2 h3 fun g' ρ' H' a' w' k1 k2 k3 k4 k5 k6=>h4 g' ρ' H' a' w' k1 k2 k3 k4 k5 (hk _ _ k6)
theorem AQ.mono {K K':AZ→Prop} (h:AQ P N ops rest K ρ H) (hk:∀ ρ,K ρ→K' ρ):AQ P N ops rest K' ρ H:=
 fun F g a w Q h1 h2 h3 h4=>h F g a w Q h1 h2 h3 fun ρ' a' k1 k2 k3 k6=>h4 ρ' a' k1 k2 k3 (hk _ k6)
theorem AW.regM {id:Nat} {l:List Oper} (ρ':AZ) (H':AN) (h:AO P N l.toArray l (fun ρ2 H2=>ρ2=ρ'∧H2=H') ρ H) (hk:Q .normal ρ' H'):AW P N (.region id l.toArray false) Q ρ H:=
 AW.reg (h.mono fun _ _ ⟨a,b⟩=>by subst a;subst b;exact hk)
theorem AW.regQM {id:Nat} {l:List Oper} (hm:P.follows .mixedOrders=true) (hB:Region.lexB .any l.toArray=true) (ρ':AZ) (h:AQ P N l.toArray l (fun ρ2=>ρ2=ρ') ρ H) (hk:Q .normal ρ' H):AW P N (.region id l.toArray true) Q ρ H:=
 AW.regQ hm hB (h.mono fun _ a=>by subst a;exact hk)
theorem AW.condP {y:Operand} (p:Prop) [Decidable p] (hy:AZ.ev ρ y=some (.fl (.bool (decide p)))) (hp:p) (h:AW P N c Q ρ H):AW P N (.cond y c c') Q ρ H:=
 AW.cond _ hy (fun _=>h) (fun hb=>absurd hp (of_decide_eq_false hb))
theorem AW.condN {y:Operand} (p:Prop) [Decidable p] (hy:AZ.ev ρ y=some (.fl (.bool (decide p)))) (hp:¬ p) (h:AW P N c' Q ρ H):AW P N (.cond y c c') Q ρ H:=
 AW.cond _ hy (fun hb=>absurd (of_decide_eq_true hb) hp) (fun _=>h)
theorem AW.condT' {y:Operand} (b:Bool) (hy:AZ.ev ρ y=some (.fl (.bool b))) (hb:b=true) (h:AW P N c Q ρ H):AW P N (.cond y c c') Q ρ H:=
 AW.cond b hy (fun _=>h) (fun h'=>by rw[hb]at h';cases h')
theorem AW.condF' {y:Operand} (b:Bool) (hy:AZ.ev ρ y=some (.fl (.bool b))) (hb:¬ b=true) (h:AW P N c' Q ρ H):AW P N (.cond y c c') Q ρ H:=
 AW.cond b hy (fun h'=>absurd h' hb) (fun _=>h)
theorem QS.mk {res:List ResultVar} {Q:AV→AN→Prop} (xs:List AV) (h:DS P ρ H res xs) (hq:Q (GC xs) H):QS P res Q .ret ρ H:=⟨xs,h,hq⟩
def P1 (ρ:AZ) (H:AN):List Operand→List AV→Prop
 | [],[]=>True
 | y::ys,x::xs=>(AZ.ev ρ y=some x∧x.notTup=true∨∃ n off len z els j,AZ.ev ρ y=some (.own n off len)∧H[(j:Nat)]? =some (n,.mem (.ar z els))∧off+len≤els.length∧x=.fz z ((els.drop off).take len))∧P1 ρ H ys xs
 | _,_=>False
def SF (g:G) (w:World):G:=⟨fun b o=>w.cell? ⟨b,o,none⟩,g.nm⟩
theorem LZ {g:G} {w:World} (h:∀ b o y,g.ro b o=some y→w.cell? ⟨b,o,none⟩=some y):g.le (SF g w):=⟨fun b o y hy=>h b o y hy,fun _ _ h=>h⟩
theorem P1.all {F:Fr} {g:G} {a:Act} {w w':World} (s:A2 g ρ a) (h3:Ak F g H w) (hb:Below w.heap.size w w'):∀ {ys:List Operand} {xs:List AV},P1 ρ H ys xs→Bs (V1 (SF g w')) xs (ys.map a.eval)
 | [],[],_=>.nil
 | y::ys,x::xs,h=>by
   have h3':=h3.of_below hb;refine .cons ?_ (P1.all s h3 hb h.2);rcases h.1 with⟨h1,h2⟩|⟨n,off,len,z,els,j,h1,h2,h4,rfl⟩
   ·exact((s.ev h1).toV1 h2).mono (LZ h3'.ro)
   ·have hv:AU g (.own n off len) [a.eval y]:=s.ev h1;generalize a.eval y=v at hv;obtain⟨p',q1,q2,q3⟩:=h3'.obj n _ (List.mem_of_getElem? h2)
    cases hv with
    | @own _ _ _ p b hn hb' hlc=>
      obtain rfl:p'=p:=Option.some.inj (q1.symm.trans hn);obtain⟨hz,l,sl,r⟩:=q2;have hez:z=p'.esz:=hz z rfl;rcases r with⟨b',c,T,e1,e2,e3,e4,e5⟩|⟨e1,_⟩
      ·obtain rfl:b'=b:=Option.some.inj (e1.symm.trans hb');obtain⟨m,sm,hm⟩:=sl.ar_slice off (off+len);have heq:(els.take (off+len)).drop off=(els.drop off).take len:=by rw[List.drop_take];congr 1;omega
       rw[heq]at sm;have hlen:((els.drop off).take len).length=len:=by simp;omega
       have:=AU.fz (g:=SF g w') (b:=b') (o:=p'.base+off*p'.esz) (cap:=p'.cap-off) (sm.mono (LZ h3'.ro)) (fun j y hj=>by
        show w'.cell? ⟨b',_,none⟩=some y;rw[cell_of_row w' b' _ c T (0,0) e2];have:=e5 _ _ (hm j y hj)
        rwa [show p'.base+(off*z+j)=p'.base+off*p'.esz+j by rw[hez];omega]at this) (by omega)
       rw[hlen]at this;exact this
      ·rw[e1]at hb';cases hb'
    | @own0 _ _ _ ad _ _=>rw[List.take_zero];exact AU.fz0
 | [],_::_,h=>h.elim
 | _::_,[],h=>h.elim
end
theorem At.cast {x y:AV} {o o':Nat} (h:At x o y) (e:o=o'):At x o' y:=e▸h
theorem FI.cast {x y y' x':AV} {o o':Nat} (h:FI x o y y' x') (e:o=o'):FI x o' y y' x':=e▸h
theorem At.lidx {α:Type} [Inhabited α] {f:α→AV} {l:List α} {z o:Nat} {y:AV} (i:Int) (h0:0≤i) (h1:i<(l.length:Int)) (h:At (f (AC l i)) o y):At (.ar z (l.map f)) (i.toNat*z+o) y:=At.idx _ (Hd f l i h0 h1) h
theorem At.vidx {α:Type} [Inhabited α] {n:Nat} {f:α→AV} {v:Vector α n} {z o:Nat} {y:AV} (i:Int) (h0:0≤i) (h1:i<(n:Int)) (h:At (f (Ag v i)) o y):At (.ar z (v.toList.map f)) (i.toNat*z+o) y:=At.idx _ (Jf f v i h0 h1) h
theorem FI.lidx {α:Type} [Inhabited α] {f:α→AV} {l:List α} {z o:Nat} {y y':AV} (i:Int) (x:α) (h0:0≤i) (h1:i<(l.length:Int)) (h:FI (f (AC l i)) o y y' (f x)):FI (.ar z (l.map f)) (i.toNat*z+o) y y' (.ar z ((Ac l i x).map f)):=by
 rw[←PB];exact FI.idx _ (Hd f l i h0 h1) h
theorem FI.vidx {α:Type} [Inhabited α] {n:Nat} {f:α→AV} {v:Vector α n} {z o:Nat} {y y':AV} (i:Int) (x:α) (h0:0≤i) (h1:i<(n:Int)) (h:FI (f (Ag v i)) o y y' (f x)):FI (.ar z (v.toList.map f)) (i.toNat*z+o) y y' (.ar z ((BG v i x).toList.map f)):=by
 rw[←NH];exact FI.idx _ (Jf f v i h0 h1) h
inductive EW:AV→AV→Prop
 | refl {x}:EW x x
 | nil {z}:EW (.fl (.slice none 0 0)) (.fz z [])
 | st {k c c' cs cs'}:EW c c'→EW (.st cs) (.st cs')→EW (.st ((k,c)::cs)) (.st ((k,c')::cs'))
theorem EW.sim {g:G} {x y:AV} (h:EW x y):∀ {l},AU g x l→AU g y l:=by
 induction h with
 | refl=>exact fun s=>s
 | nil=>intro l s;cases s;exact AU.fz0
 | st _ _ i1 i2=>intro l s;cases s with |stCons a b c=>exact AU.stCons (i1 a) b (i2 c)
theorem EW.v {g:G} {x y:AV} (h:EW x y) {v:Value} (s:V g x v):V g y v:=by
 cases h with
 | refl=>exact s
 | nil=>exact Lp _ g v s
 | st a b=>obtain⟨l,e,k⟩:=s;exact⟨l,e,(EW.st a b).sim k⟩
theorem Ab {g:G} {v:Value} (h:v.oneCell'=true):AU g (.fl v) [v]:=.fl h
theorem QJ {α:Type} {g:G} {n z:Nat} {f:α→AV} {a:α} {l:List Value} (h:AU g (f a) l) (hz:l.length=z):AU g (.ar z ((Vector.replicate n a).toList.map f)) (List.replicate n l).flatten:=by
 have e:(Vector.replicate n a).toList.map f=List.replicate n (f a):=by simp
 rw[e]
 induction n with
 | zero=>exact AU.arNil
 | succ n ih=>rw[List.replicate_succ,List.replicate_succ,List.flatten_cons];exact AU.arCons h hz (ih (by simp))
theorem Jo (n:Nat) (v:Value):(List.replicate n [v]).flatten=List.replicate n v:=by
 induction n with
 | zero=>rfl
 | succ n ih=>rw[List.replicate_succ,List.flatten_cons,ih];rfl
theorem D0 {α:Type} {g:G} {n:Nat} {f:α→AV} {a:α} {v:Value} (h:AU g (f a) [v]):AU g (.ar 1 ((Vector.replicate n a).toList.map f)) (List.replicate n v):=by
 rw[←Jo];exact QJ h rfl
section
variable {P:Program} {N:Nat} {ops:Array Oper} {o:Oper} {rest:List Oper} {K:AZ→AN→Prop} {ρ:AZ} {H:AN} {x:AV} {c:Code} {Q:Exit→AZ→AN→Prop}
theorem AO.coeC (t:Nat) {y y':AV} (ht:ρ.lookup t=some y) (hc:EW y y') (h:AO P N ops rest K ((t,y')::ρ) H):AO P N ops rest K ρ H:=AO.coe t ht (fun _ _=>hc.v) h
theorem AW.coeC (t:Nat) {y y':AV} (ht:ρ.lookup t=some y) (hc:EW y y') (h:AW P N c Q ((t,y')::ρ) H):AW P N c Q ρ H:=AW.coe t ht (fun _ _=>hc.v) h
theorem AO.callS {fo:Operand} {as:List Operand} {A:Array TypeId} {f:FuncId} (args:List AV) (r:AV) (d:Nat) (hd:o.dst=some d) (hN:d<N) (hok:AK P f) (hg:o.guard=none) (ho:o.op=.call {callee:=.value fo,args:=as.toArray,argTypes:=A}) (hf:AZ.ev ρ fo=some (.fl (.func (.func f) #[] #[])))
 (ha:OH ρ as args) (h:AM P f args r) (hk:AO P N ops rest K ((d,r)::ρ) H):AO P N ops (o::rest) K ρ H:=
 AO.call_w (fun _ _ _=>Bf hg _) args r ho hf d hd hN hok ha h hk
theorem AO.callG (j:Nat) (b:Bool) (e:Nat) {fo:Operand} {as:List Operand} {A:Array TypeId} {f:FuncId} (args:List AV) (r:AV) (d:Nat) (hd:o.dst=some d) (hN:d<N) (hok:AK P f) (hg:o.guard=some (j,b)) (he:(ops[j]?).bind (·.dst)=some e) (hb:ρ.lookup e=some (.fl (.bool b)))
 (ho:o.op=.call {callee:=.value fo,args:=as.toArray,argTypes:=A}) (hf:AZ.ev ρ fo=some (.fl (.func (.func f) #[] #[])))
 (ha:OH ρ as args) (h:AM P f args r) (hk:AO P N ops rest K ((d,r)::ρ) H):AO P N ops (o::rest) K ρ H:=
 AO.call_w (fun _ _ s=>(B3 hg he hb s).trans (by simp)) args r ho hf d hd hN hok ha h hk
theorem AG.lenL {α:Type} {f:α→AV} {l:List α} {T E:TypeId} {y:Operand} {z:Nat} (ho:o.op=.call {callee:=.builtin .len,args:= #[y],argTypes:= #[T]}) (hy:AZ.ev ρ y=some (.fz z (l.map f)))
 (ht:P.underlying T=some (.slice E)):AG P o ρ H (.fl (.int .i64 (l.length:Int))):=by
 have:=AG.lenFz (H:=H) ho hy ht;rwa [List.length_map]at this
theorem AG.idxL {α:Type} [Inhabited α] {f:α→AV} {l:List α} {T E:TypeId} {y iy:Operand} {z:Nat} {k:IntKind} {i:Int} (ho:o.op=.indexAddr T y iy) (hy:AZ.ev ρ y=some (.fz z (l.map f))) (hiy:AZ.ev ρ iy=some (.fl (.int k i)))
 (h:0≤i∧i<(l.length:Int)) (ht:P.underlying T=some (.slice E)) (hz:AX P E=some z):AG P o ρ H (.rp (f (AC l i))):=AG.idxFz ho hy hiy h.1 (Hd f l i h.1 h.2) ht hz
theorem AG.sliceL {α:Type} {f:α→AV} {l:List α} {T E:TypeId} {y:Operand} {lo hi:Option Operand} {z:Nat} {i j:Int} (ho:o.op=.slice T y lo hi none) (hy:AZ.ev ρ y=some (.fz z (l.map f))) (hl:FX ρ lo=some i) (hh:EF ρ (l.map f).length hi=some j)
 (h:0≤i∧i≤j∧j≤(l.length:Int)) (ht:P.underlying T=some (.slice E)) (hz:AX P E=some z):AG P o ρ H (.fz z ((Bd l i j).map f)):=by
 rw[←NR];exact AG.sliceFz ho hy hl hh h.1 h.2.1 (by simpa using h.2.2) ht hz
theorem AG.idxO {α:Type} {f:α→AV} {l:List α} {T E:TypeId} {y iy:Operand} {z n:Nat} {k:IntKind} {i:Int} (j:Nat) (ho:o.op=.indexAddr T y iy) (hy:AZ.ev ρ y=some (.own n 0 l.length)) (hiy:AZ.ev ρ iy=some (.fl (.int k i)))
 (hH:H[j]? =some (n,.mem (.ar z (l.map f)))) (h:0≤i∧i<(l.length:Int)) (ht:P.underlying T=some (.slice E)) (hz:AX P E=some z):AG P o ρ H (.ptr n (i.toNat*z+0)):=by
 have:=AG.idxOwn (H:=H) j ho hy hiy hH h.1 h.2 ht hz;simpa using this
theorem AG.idxP {T E:TypeId} {y iy:Operand} {L n off z:Nat} {k:IntKind} {i:Int} (ho:o.op=.indexAddr T y iy) (hy:AZ.ev ρ y=some (.ptr n off)) (hiy:AZ.ev ρ iy=some (.fl (.int k i)))
 (h:0≤i∧i<(L:Int)) (ht:P.underlying T=some (.array L E)) (hz:AX P E=some z):AG P o ρ H (.ptr n (off+i.toNat*z)):=AG.idxPtr ho hy hiy h.1 h.2 ht hz
theorem AG.idxS {T:TypeId} {y iy:Operand} {s:ByteArray} {k:IntKind} {i:Int} (ho:o.op=.index T y iy) (hy:AZ.ev ρ y=some (.fl (.string s))) (hiy:AZ.ev ρ iy=some (.fl (.int k i)))
 (h:0≤i∧i<(s.size:Int)) (ht:P.underlying T=some .string):AG P o ρ H (.fl (.int .u8 (AF s i))):=AG.idxStr ho hy hiy h.1 h.2 ht
theorem AG.sliceS {T:TypeId} {y:Operand} {lo hi:Option Operand} {s:ByteArray} {l h:Int} (ho:o.op=.slice T y lo hi none) (hy:AZ.ev ρ y=some (.fl (.string s))) (hl:FX ρ lo=some l) (hh:EF ρ s.size hi=some h)
 (hb:0≤l∧l≤h∧h≤(s.size:Int)) (ht:P.underlying T=some .string):AG P o ρ H (.fl (.string (s.extract l.toNat h.toNat))):=AG.sliceStr ho hy hl hh hb.1 hb.2.1 hb.2.2 ht
theorem DN {α:Type} (f:α→AV) (l:List α):((l.map f).drop 0).take l.length=l.map f:=by rw[List.drop_zero];exact List.take_of_length_le (by simp)
theorem AG.strO {S D E:TypeId} {y:Operand} {xs:List Int} {n:Nat} (j:Nat) (ho:o.op=.convert S D y) (hy:AZ.ev ρ y=some (.own n 0 xs.length)) (hH:H[j]? =some (n,.mem (.ar 1 (xs.map AY))))
 (hS:P.underlying S=some (.slice E)) (hD:P.underlying D=some .string) (hE:P.underlying E=some (.int .u8)):AG P o ρ H (.fl (.string (strOfNums xs))):=
 AG.strOwn j ho hy hH (DN _ _) rfl hS hD hE
theorem EJ.ownL {α:Type} {f:α→AV} {l:List α} {z n:Nat} (j:Nat) (h:H[j]? =some (n,.mem (.ar z (l.map f)))):EJ H z (.own n 0 l.length) (l.map f):=by
 have:=EJ.own (off:=0) (len:=l.length) j h (by simp);rwa [DN]at this
theorem AO.appendL {α:Type} {f:α→AV} {l m:List α} {T U E E':TypeId} {s y:Operand} {z by' n:Nat} {xv:AV} {zl:List Value} (i:Nat) (d:Nat) (hd:o.dst=some d) (hN:d<N) (hg:o.guard=none)
 (ho:o.op=.call {callee:=.builtin .append,args:= #[s,y],argTypes:= #[T,U]}) (hs:AZ.ev ρ s=some (.own n 0 l.length)) (hy:AZ.ev ρ y=some xv) (hi:H[i]? =some (n,.mem (.ar z (l.map f)))) (hsrc:EJ H z xv (m.map f))
 (ht:P.underlying T=some (.slice E)) (hu:P.underlying U=some (.slice E')) (hz:AX P E=some z) (hby:BB P E=some by') (hzero:Ah P E=some zl) (hzl:zl.length=z)
 (hbound:(l++m).length*by'≤140737488355328) (hpos:1≤by')
 (h:∀ n',AO P N ops rest K ((d,.own n' 0 (l++m).length)::ρ) (H.set i (n',.mem (.ar z ((l++m).map f))))):AO P N ops (o::rest) K ρ H:=
 AO.append i _ _ hg d hd hN ho hs hy hi hsrc (by simp) ht hu hz hby hzero hzl (by simpa using hbound) (by
  have:=Nat.le_mul_of_pos_right (l++m).length (show 0<by' by omega)
  simp at this hbound⊢;omega) (by rw[DN,List.map_append]) (by simp) h
def Um (z:Nat):List AV→Prop
 | []=>True
 | x::xs=>(x.cell=true∧x.size=z)∧Um z xs
theorem IA {z:Nat} {Z:AV} (hZ:Z.size=z):∀ (xs pre:List AV) (k:Nat),pre.length=k→Um z xs→
 CG (fun i=>some (i*z,z)) ((List.range' k xs.length).zip xs) (.ar z (pre++List.replicate xs.length Z)) (.ar z (pre++xs))
 | [],pre,k,hk,_=>by simpa using CG.nil
 | x::xs,pre,k,hk,h=>by
   have e:pre++List.replicate (x::xs).length Z=pre++Z::List.replicate xs.length Z:=by simp[List.replicate_succ]
   rw[e];have hp:FI (.ar z (pre++Z::List.replicate xs.length Z)) (k*z+0) Z x (.ar z ((pre++Z::List.replicate xs.length Z).set k x)):=FI.idx k (by subst hk;simp) FI.here;have e2:(pre++Z::List.replicate xs.length Z).set k x=(pre++[x])++List.replicate xs.length Z:=by subst hk;simp
   rw[e2]at hp;have:=IA hZ xs (pre++[x]) (k+1) (by simp[hk]) h.2;have e3:(List.range' k (x::xs).length).zip (x::xs)=(k,x)::(List.range' (k+1) xs.length).zip xs:=by simp[List.range'_succ]
   rw[e3,show pre++x::xs=(pre++[x])++xs by simp];exact CG.cons (off:=k*z) (sz:=z) (y:=Z) rfl h.1.1 h.1.2 hZ hp this
theorem Aj {z:Nat} {Z:AV} (xs:List AV) (hZ:Z.size=z) (h:Um z xs):CG (fun i=>some (i*z,z)) ((List.range' 0 xs.length).zip xs) (.ar z (List.replicate xs.length Z)) (.ar z xs):=by
 simpa using IA hZ xs [] 0 rfl h
def Ef (ρ:AZ) (n z:Nat) (els:List AV):AZ→Prop
 | []=>True
 | (t,x)::r=>(∃ off len,ρ.lookup t=some (.own n off len)∧off+len≤els.length∧x=.fz z ((els.drop off).take len))∧Ef ρ n z els r
theorem Ef.get {n z:Nat} {els:List AV}:∀ {r:AZ},Ef ρ n z els r→∀ {t x},r.lookup t=some x→∃ off len,ρ.lookup t=some (.own n off len)∧off+len≤els.length∧x=.fz z ((els.drop off).take len)
 | [],_,t,x,h=>by cases h
 | (u,y)::r,hf,t,x,h=>by
   rw[Aq]at h;by_cases e:t=u
   ·rw[if_pos e]at h;cases h;subst e;exact hf.1
   ·rw[if_neg e]at h;exact hf.2.get h
theorem A4 (r ρ:AZ) (t:Nat):(r++ρ).lookup t=(r.lookup t).or (ρ.lookup t):=List.lookup_append
theorem AO.freezeS (i:Nat) (r:AZ) {n z:Nat} {els:List AV} (hi:H[i]? =some (n,.mem (.ar z els))) (hr:Ef ρ n z els r) (h:AO P N ops rest K (r++ρ) (H.eraseIdx i)):AO P N ops rest K ρ H:=by
 intro F g a w R h1 h2 h3 h4;obtain⟨g',k1,k2,k3⟩:=h3.freeze hi;refine h F g' a w R ?_ h2 k2 fun g2 ρ' H' a' w' j1 j2 j3 j4 j5 j6=>h4 g2 ρ' H' a' w' (k1.trans j1) j2 j3 j4 j5 j6;intro u y hu;rw[A4]at hu
 cases e:r.lookup u with
 | none=>rw[e]at hu;exact(h1 u y (by simpa using hu)).mono k1
 | some x=>
   rw[e]at hu;cases hu
   obtain⟨off,len,e1,e2,rfl⟩:=hr.get e;exact k3 _ _ _ e2 ((h1 u _ e1).mono k1)
theorem AW.freezeS (i:Nat) (r:AZ) {n z:Nat} {els:List AV} (hi:H[i]? =some (n,.mem (.ar z els))) (hr:Ef ρ n z els r) (h:AW P N c Q (r++ρ) (H.eraseIdx i)):AW P N c Q ρ H:=by
 intro F g a w R h1 h2 h3 h4;obtain⟨g',k1,k2,k3⟩:=h3.freeze hi;refine h F g' a w R ?_ h2 k2 fun e g2 ρ' H' a' w' j1 j2 j3 j4 j5 j6=>h4 e g2 ρ' H' a' w' (k1.trans j1) j2 j3 j4 j5 j6;intro u y hu;rw[A4]at hu
 cases e:r.lookup u with
 | none=>rw[e]at hu;exact(h1 u y (by simpa using hu)).mono k1
 | some x=>
   rw[e]at hu;cases hu
   obtain⟨off,len,e1,e2,rfl⟩:=hr.get e;exact k3 _ _ _ e2 ((h1 u _ e1).mono k1)
theorem Ad {α:Type} {f:α→AV} {l:List α} {n z t:Nat} (h:ρ.lookup t=some (.own n 0 l.length)):∃ off len,ρ.lookup t=some (.own n off len)∧off+len≤(l.map f).length∧AV.fz z (l.map f)=.fz z (((l.map f).drop off).take len):=
 ⟨0,l.length,h,by simp,by rw[DN]⟩
end
theorem Fh {ops:Array Oper} {ρ:AZ} {o:Oper} {j:Nat} {want:Bool} {d:Nat} {g:G} {a:Act} (hg:o.guard=some (j,want)) (hd:(ops[j]?).bind (·.dst)=some d) (hb:ρ.lookup d=some (.fl undef)) (s:A2 g ρ a):
 Region.wanted o (yielded ops a.tmps)=false:=by
 have hv:a.tmps.getD d undef=undef:=s d _ hb;have hy:yielded ops a.tmps j=none:=by
  unfold yielded;rw[hd];show (match a.tmps[d]? with |some (.bool b)=>some b|_=>none)=none;rw[Array.getD_eq_getD_getElem?]at hv
  cases e:a.tmps[d]? with
  | none=>rfl
  | some v=>rw[e]at hv;simp at hv;subst hv;rfl
 simp[Region.wanted,hg,hy]
section
variable {P:Program} {N:Nat} {ops:Array Oper} {o:Oper} {rest:List Oper} {K:AZ→AN→Prop} {KQ:AZ→Prop} {ρ:AZ} {H:AN}
theorem AO.skipU (j:Nat) (b:Bool) (e:Nat) (hg:o.guard=some (j,b)) (he:(ops[j]?).bind (·.dst)=some e) (hb:ρ.lookup e=some (.fl undef))
 (d:Nat) (hd:o.dst=some d) (hN:d<N) (h:AO P N ops rest K ((d,.fl undef)::ρ) H):AO P N ops (o::rest) K ρ H:=by
 intro F g a w Q h1 h2 h3 h4;unfold wpList;rw[if_neg (by rw[Fh hg he hb h1];simp)];refine h F g _ w Q (by rw[hd];exact h1.put rfl (by omega)) (by rw[CD];exact h2) h3 ?_;intro g' ρ' H' a' w2 k1 k2 k3 k4 k5 k6;exact h4 g' ρ' H' a' w2 k1 k2 k3 (by rw[k4,BV]) k5 k6
theorem AQ.skipU (j:Nat) (b:Bool) (e:Nat) (hg:o.guard=some (j,b)) (he:(ops[j]?).bind (·.dst)=some e) (hb:ρ.lookup e=some (.fl undef))
 (d:Nat) (hd:o.dst=some d) (hN:d<N) (h:AQ P N ops rest KQ ((d,.fl undef)::ρ) H):AQ P N ops (o::rest) KQ ρ H:=by
 intro F g a w Q h1 h2 h3 h4;unfold wpQuiet;rw[if_neg (by rw[Fh hg he hb h1];simp)];refine h F g _ w Q (by rw[hd];exact h1.put rfl (by omega)) (by rw[CD];exact h2) h3 ?_;intro ρ' a' k2 k3 k4 k6;exact h4 ρ' a' k2 k3 (by rw[k4,BV]) k6
end
section
variable {P:Program} {N:Nat} {ops:Array Oper} {K:AZ→AN→Prop} {KQ:AZ→Prop} {ρ ρ':AZ} {H H':AN}
theorem AO.nilE (hk:K ρ' H') (hs:Cs ρ' ρ) (hH:BS H' H):AO P N ops [] K ρ H:=AO.nil hs hH hk
theorem AQ.nilE (hk:KQ ρ') (hs:Cs ρ' ρ):AQ P N ops [] KQ ρ H:=AQ.nil hs hk
end
def Bc (P:Program) (m:Nat) (T:TypeId) (x y:AV) (b:Bool):Prop:=
 ∀ d g u v w,V1 g x u→V1 g y v→(Op.equalIn (d+m) T u v).run P w=.ok b w
section
variable {P:Program} {T:TypeId} {m:Nat}
theorem Bc.int {k k':IntKind} {a b:Int} (ht:P.underlying T=some (.int k')):Bc P 1 T (.fl (.int k a)) (.fl (.int k b)) (decide (a=b)):=fun d g u v w h1 h2=>by
 have e1:u=.int k a:=h1;have e2:v=.int k b:=h2;rw[e1,e2,run_equalIn_int w d T k k' a b ht];rfl
theorem Bc.bool {a b:Bool} (ht:P.underlying T=some .bool):Bc P 1 T (.fl (.bool a)) (.fl (.bool b)) (decide (a=b)):=fun d g u v w h1 h2=>by
 have e1:u=.bool a:=h1;have e2:v=.bool b:=h2;rw[e1,e2,run_equalIn_bool' w d T a b ht];cases a<;>cases b<;>rfl
theorem Bc.str {a b:ByteArray} (ht:P.underlying T=some .string):Bc P 1 T (.fl (.string a)) (.fl (.string b)) (decide (a=b)):=fun d g u v w h1 h2=>by
 have e1:u=.string a:=h1;have e2:v=.string b:=h2;rw[e1,e2,run_equalIn_string w d T a b ht,Hz]
def RM (P:Program) (m:Nat) (X Y:AV):List Field→List Bool→Prop
 | [],[]=>True
 | f::fs,b::bs=>((f.name== "_")=false∧∃ x y,At X f.offset x∧At Y f.offset y∧Ao P f.type=some x.isAgg∧Ao P f.type=some y.isAgg∧AX P f.type=some x.size∧AX P f.type=some y.size∧Bc P m f.type x y b)∧RM P m X Y fs bs
 | _,_=>False
theorem FZ {g:G} {X Y:AV} {l r:List Value} (hx:AU g X l) (hy:AU g Y r) (d:Nat) (w:World):∀ {fs:List Field} {bs:List Bool},RM P m X Y fs bs→
 (Op.eqFields (d+m) l.toArray r.toArray fs).run P w=.ok (bs.all id) w
 | [],[],_=>by simp[Op.eqFields]
 | f::fs,b::bs,h=>by
   obtain⟨⟨hn,x,y,k1,k2,k3,k4,k5,k6,k7⟩,h2⟩:=h;obtain⟨u,hu,ru⟩:=Fk (P:=P) (w:=w) hx k1 k3 k5;obtain⟨v,hv,rv⟩:=Fk (P:=P) (w:=w) hy k2 k4 k6;have hn':f.name≠ "_" :=by simpa using hn
   simp only[Op.eqFields,if_pos hn',Sem.run_bind,ru,rv,Result.andThen_ok,k7 d g u v w hu hv]
   cases b with
   | false=>simp
   | true=>simpa using FZ hx hy d w h2
 | [],_::_,h=>h.elim
 | _::_,[],h=>h.elim
theorem Bc.struct {fs:List Field} {cs ds:List (Nat×AV)} {bs:List Bool} (ht:P.underlying T=some (.struct fs.toArray)) (hp:P.stoodInHeld T=false) (h:RM P m (.st cs) (.st ds) fs bs):Bc P (m+1) T (.st cs) (.st ds) (bs.all id):=fun d g u v w h1 h2=>by
 obtain⟨l,rfl,hl⟩:=h1;obtain⟨r,rfl,hr⟩:=h2;have hf:P.fieldsOf T=fs.toArray:=by simp[Program.fieldsOf,ht]
 have:=run_equalIn_struct (P:=P) w (d+m) T l.toArray r.toArray (by rw[hf];exact ht) hp;rw[show d+(m+1)=(d+m)+1 by omega,this,hf];exact FZ hl hr d w h
theorem Bc.of {x y:AV} {b c:Bool} (h:Bc P m T x y b) (e:b=c):Bc P m T x y c:=e▸h
variable {o:Oper} {ρ:AZ} {H:AN}
theorem AG.eqS {T':TypeId} {y z:Operand} {cs ds:List (Nat×AV)} {b:Bool} (ho:o.op=.binOp .eql T y z T') (hy:AZ.ev ρ y=some (.st cs)) (hz:AZ.ev ρ z=some (.st ds))
 (hg:P.eqGuardType P.depth T=false) (he:Bc P m T (.st cs) (.st ds) b) (hm:m≤10000):AG P o ρ H (.fl (.bool b)):=
 AG.of_flat fun g a s w=>by
  have e1:V1 g (.st cs) (a.eval y):=s.ev hy;have e2:V1 g (.st ds) (a.eval z):=s.ev hz;have r:=he (10000-m) g _ _ w e1 e2;rw[show 10000-m+m=10000 by omega]at r;obtain⟨l,el,_⟩:=e1;obtain⟨k,ek,_⟩:=e2;rw[el,ek]at r;simp[execOp,ho,el,ek,run_eqGuard_agg (P:=P) w .eql T y z l.toArray k.toArray hg,run_eql_struct (P:=P) w,r]
theorem AG.neS {T':TypeId} {y z:Operand} {cs ds:List (Nat×AV)} {b:Bool} (ho:o.op=.binOp .neq T y z T') (hy:AZ.ev ρ y=some (.st cs)) (hz:AZ.ev ρ z=some (.st ds))
 (hg:P.eqGuardType P.depth T=false) (he:Bc P m T (.st cs) (.st ds) b) (hm:m≤10000):AG P o ρ H (.fl (.bool (!b))):=
 AG.of_flat fun g a s w=>by
  have e1:V1 g (.st cs) (a.eval y):=s.ev hy;have e2:V1 g (.st ds) (a.eval z):=s.ev hz;have r:=he (10000-m) g _ _ w e1 e2;rw[show 10000-m+m=10000 by omega]at r;obtain⟨l,el,_⟩:=e1;obtain⟨k,ek,_⟩:=e2;rw[el,ek]at r;simp[execOp,ho,el,ek,run_eqGuard_agg (P:=P) w .neq T y z l.toArray k.toArray hg,run_neq_struct (P:=P) w,r]
end
section
variable {P:Program} {o:Oper} {a:Act} {w:World} {next:Act→World→Prop} {Q:Exit→Act→World→Prop}
theorem K4 (h:o.wp P a w next Q):o.wp P a w (fun a' w'=>next a' w'∧∃ v,a'.tmps=(a.put o.dst v).tmps) Q:=by
 unfold Oper.wp at *
 generalize (execOp a.eval o).run P w=r at *
 cases r with
 | ok n w'=>
   cases n<;>simp only[Oper.upon]at h⊢
   all_goals first
    | exact⟨h,_,rfl⟩
    | exact Calls.mono h (fun e w'' he=>by cases e<;>first|exact⟨he,_,rfl⟩|exact he)
    | exact Rows.mono h (fun v w'' he=>⟨he,v,rfl⟩)
    | (refine⟨h,undef,?_⟩;cases o.dst<;>rfl)
 | halt x w'=>cases x<;>simp only[Oper.upon]at h⊢ <;>exact h
end
def Bk (all:List (Oper×AV)) (o:Oper):AZ:=
 o.after.toList.filterMap fun e=>if Region.binds .any e then(all[e.on]?).bind fun p=>p.1.dst.map fun d=>(d,p.2)else none
def LU (all:List (Oper×AV)) (i t:Nat):Bool:=all.all fun p=>(p.1.dst != some t)||p.1.after.toList.any fun e=>Region.binds .any e&&e.on==i
def FD (all:List (Oper×AV)) (ρ0:AZ) (i:Nat):AZ:=ρ0.filter fun q=>LU all i q.1
def DJ (P:Program) (N:Nat) (ops:Array Oper) (all:List (Oper×AV)) (ρ0:AZ) (H:AN):Nat→List (Oper×AV)→Prop
 | _,[]=>True
 | k,p::r=>AO P N ops [p.1] (fun ρ' H'=>(∃ d,p.1.dst=some d∧ρ'.lookup d=some p.2)∧BS H H') (Bk all p.1++FD all ρ0 k) H∧DJ P N ops all ρ0 H (k+1) r
theorem Bo {f:Nat→Bool} {t:Nat} {x:AV}:∀ {ρ:AZ},(ρ.filter fun q=>f q.1).lookup t=some x→f t=true∧ρ.lookup t=some x
 | [],h=>by cases h
 | (u,y)::r,h=>by
   rw[List.filter_cons]at h;rw[Aq];by_cases c:f u=true
   ·rw[if_pos c,Aq]at h;by_cases e:t=u
    ·rw[if_pos e]at h⊢;subst e;exact⟨c,h⟩
    ·rw[if_neg e]at h⊢;exact Bo h
   ·rw[if_neg c]at h;obtain⟨h1,h2⟩:=Bo h;by_cases e:t=u
    ·subst e;exact absurd h1 c
    ·rw[if_neg e];exact⟨h1,h2⟩
def FS (all:List (Oper×AV)):AZ:=all.filterMap fun p=>p.1.dst.map fun d=>(d,p.2)
def Nb (l:List Oper):Bool:=
 (l.map (·.dst)).all (·.isSome)&&decide ((l.map (·.dst)).Nodup)&&
 (List.range l.length).all fun i=>((l[i]?).map fun o=>o.after.toList.all fun e=> !(Region.binds .any e)||decide (e.on<i)).getD true
theorem DJ.get {P:Program} {N:Nat} {ops:Array Oper} {all:List (Oper×AV)} {ρ0:AZ} {H:AN}:∀ {l:List (Oper×AV)} {k:Nat},DJ P N ops all ρ0 H k l→∀ {i:Nat} {p},l[i]? =some p→
 AO P N ops [p.1] (fun ρ' H'=>(∃ d,p.1.dst=some d∧ρ'.lookup d=some p.2)∧BS H H') (Bk all p.1++FD all ρ0 (k+i)) H
 | [],_,_,i,p,h=>by simp at h
 | q::r,_,hh,0,p,h=>by simp at h;subst h;exact hh.1
 | q::r,k,hh,i+1,p,h=>by simp at h;have:=DJ.get hh.2 h;rwa [show k+1+i=k+(i+1)by omega]at this
theorem C5 {t:Nat} {x:AV}:∀ {ρ:AZ},ρ.lookup t=some x→(t,x)∈ρ
 | [],h=>by cases h
 | (u,y)::r,h=>by
   rw[Aq]at h;by_cases e:t=u
   ·rw[if_pos e]at h;cases h;subst e;simp
   ·rw[if_neg e]at h;exact List.mem_cons_of_mem _ (C5 h)
structure Cd (F:Fr) (g:G) (ρ0:AZ) (H:AN) (N:Nat) (ds:List Deferred) (all:List (Oper×AV)) (listed:Array Bool) (a:Act) (w:World):Prop where
 inv:∃ g',g.le g'∧(∀ t x,ρ0.lookup t=some x→(∀ (j:Nat) p,all[j]? =some p→listed.getD j false=true→p.1.dst≠some t)→V g' x (a.tmps.getD t undef))∧(∀ (j:Nat) p d,all[j]? =some p→listed.getD j false=true→p.1.dst=some d→V g' p.2 (a.tmps.getD d undef))∧Ak F g' H w
 size:a.tmps.size=N
 defers:a.defers=ds
 closed:∀ (j:Nat) p,all[j]? =some p→listed.getD j false=true→∀ e∈p.1.after.toList,Region.binds .any e=true→listed.getD e.on false=true
theorem BW {ops:Array Oper} {listed:Array Bool} {i:Nat} (h:i∈Region.ready .any ops listed):i<ops.size∧listed.getD i true=false∧∃ o,ops[i]? =some o∧∀ e∈o.after.toList,Region.binds .any e=true→listed.getD e.on false=true:=by
 simp only[Region.ready,List.mem_filter,List.mem_range,Bool.and_eq_true]at h;obtain⟨h1,h2,h3⟩:=h;refine⟨h1,by simpa using h2,ops[i],by simp[h1],?_⟩;simp[h1]at h3;intro e he hb;obtain⟨j,hj,rfl⟩:=List.getElem_of_mem he;have:=h3 j (by simpa using hj);simp at hb;simpa [hb]using this
theorem Fu {ops:Array Oper} {listed:Array Bool} {i:Nat} {o:Oper} (ho:ops[i]? =some o) (h2:listed.getD i true=false) (h3:∀ e∈o.after.toList,Region.binds .any e=true→listed.getD e.on false=true):i∈Region.ready .any ops listed:=by
 have h1:i<ops.size:=(Array.getElem?_eq_some_iff.1 ho).1;simp only[Region.ready,List.mem_filter,List.mem_range,Bool.and_eq_true];refine⟨h1,by simpa using h2,?_⟩;rw[ho];simp only[Option.map_some,Option.getD_some,Array.all_eq_true];intro j hj;have:=h3 o.after[j] (by simp);by_cases hb:Region.binds .any o.after[j]=true
 ·simp[this hb]
 ·simp at hb;simp[hb]
theorem JI {P:Program} {o:Oper} {a:Act} {w:World} {next next':Act→World→Prop} {Q R:Exit→Act→World→Prop} (hQ:∀ e a w,e≠ .normal→Q e a w→R e a w) (hn:∀ a w,next a w→next' a w)
 (h:o.wp P a w next Q∨(o.asks P a w∧LetsOut Q)):o.wp P a w next' R∨(o.asks P a w∧LetsOut R):=by
 have hl:LetsOut Q→LetsOut R:=fun⟨a,w,h⟩=>⟨a,w,hQ _ _ _ (by intro h;cases h) h⟩;refine h.imp (fun h=>?_) fun h=>⟨h.1,hl h.2⟩;unfold Oper.wp at *
 generalize (execOp a.eval o).run P w=r at *
 cases r with
 | ok n w'=>
   cases n<;>simp only[Oper.upon]at h⊢
   all_goals first
    | exact hn _ _ h
    | exact Calls.mono h (fun e w'' he=>by cases e<;>first|exact hn _ _ he|exact hQ _ _ _ (by intro h;cases h) he|exact hl he)
    | exact Rows.mono h (fun v w'' he=>hn _ _ he)
    | exact h
 | halt x w'=>cases x<;>simp only[Oper.upon]at h⊢ <;>first|exact hQ _ _ _ (by intro h;cases h) h|exact h
theorem G4 {a:Act} {d t:Nat} {v:Value} (h:t≠d):(a.put (some d) v).tmps.getD t undef=a.tmps.getD t undef:=by
 show (a.tmps.setIfInBounds d v).getD t undef=_;rw[Array.getD_eq_getD_getElem?,Array.getD_eq_getD_getElem?,Array.getElem?_setIfInBounds,if_neg (fun e=>h e.symm)]
theorem Fl {x:Array Bool} {i j:Nat} {c:Bool} (h:(x.setIfInBounds i true).getD j c=true):j=i∨x.getD j c=true:=by
 by_cases e:j=i
 ·exact .inl e
 ·right;rw[Array.getD_eq_getD_getElem?,Array.getElem?_setIfInBounds,if_neg (fun h=>e h.symm)]at h;rw[Array.getD_eq_getD_getElem?];exact h
structure IL (l:List Oper):Prop where
 dst:∀ (i:Nat) (o:Oper),l[i]? =some o→∃ d,o.dst=some d
 nodup:∀ (i j:Nat) (o p:Oper) (d:Nat),l[i]? =some o→l[j]? =some p→o.dst=some d→p.dst=some d→i=j
 back:∀ (i:Nat) (o:Oper),l[i]? =some o→∀ e∈o.after.toList,Region.binds .any e=true→e.on<i
theorem Lb {l:List Oper} (h:Nb l=true):IL l:=by
 simp only[Nb,Bool.and_eq_true,List.all_eq_true,decide_eq_true_eq]at h;obtain⟨⟨h1,h2⟩,h4⟩:=h;refine⟨fun i o ho=>?_,fun i j o p d hi hj e1 e2=>?_,fun i o ho e he=>?_⟩
 ·have hm:o.dst∈l.map (·.dst):=List.mem_map.2 ⟨o,List.mem_of_getElem? ho,rfl⟩;obtain⟨d,hd⟩:=Option.isSome_iff_exists.1 (h1 _ hm);exact⟨d,hd⟩
 ·obtain⟨hi',rfl⟩:=List.getElem?_eq_some_iff.1 hi;obtain⟨hj',rfl⟩:=List.getElem?_eq_some_iff.1 hj;have hp:=List.pairwise_iff_getElem.1 h2;rcases Nat.lt_trichotomy i j with q|q|q
  ·exact absurd (by rw[List.getElem_map,List.getElem_map];exact e1.trans e2.symm) (hp i j (by simpa using hi') (by simpa using hj') q)
  ·exact q
  ·exact absurd (by rw[List.getElem_map,List.getElem_map];exact e2.trans e1.symm) (hp j i (by simpa using hj') (by simpa using hi') q)
 ·have hlt:=(List.getElem?_eq_some_iff.1 ho).1;have:=h4 i (List.mem_range.2 hlt);rw[ho]at this;simp only[Option.map_some,Option.getD_some,List.all_eq_true]at this;exact fun hb=>by have:=this e he;rw[hb]at this;simpa using this
section
variable {P:Program} {N:Nat} {F:Fr} {g:G} {ρ0:AZ} {H:AN} {ds:List Deferred} {l:List Oper} {xs:List AV} {R:Exit→Act→World→Prop}
theorem L7 (hlen:xs.length=l.length) {i:Nat} {o:Oper} (h:l[i]? =some o):∃ x,(l.zip xs)[i]? =some (o,x):=by
 have hi:=(List.getElem?_eq_some_iff.1 h).1;refine⟨xs[i],?_⟩;rw[List.getElem?_zip_eq_some];exact⟨h,List.getElem?_eq_getElem (by omega)⟩
theorem DP {i:Nat} {p:Oper×AV} (h:(l.zip xs)[i]? =some p):l[i]? =some p.1:=(List.getElem?_zip_eq_some.1 h).1
theorem M8 (hlen:xs.length=l.length) (hB:IL l) (hS:DJ P N l.toArray (l.zip xs) ρ0 H 0 (l.zip xs)) {listed:Array Bool} {a:Act} {w:World} (inv:Cd F g ρ0 H N ds (l.zip xs) listed a w) {i:Nat} (hi:i∈Region.ready .any l.toArray listed):
 wpOp P l.toArray R i (fun a' w'=>Cd F g ρ0 H N ds (l.zip xs) (listed.setIfInBounds i true) a' w') a w:=by
 obtain⟨k1,k2,o,ho,k3⟩:=BW hi;have hol:l[i]? =some o:=by simpa using ho
 obtain⟨x,hx⟩:=L7 hlen hol;obtain⟨d,hd⟩:=hB.dst i o hol;obtain⟨g',q1,q2,q3,q4⟩:=inv.inv;have hao:=hS.get hx;rw[Nat.zero_add]at hao;have hes:A2 g' (Bk (l.zip xs) o++FD (l.zip xs) ρ0 i) a:=by
  intro t y hy;rw[A4]at hy
  cases hn:(Bk (l.zip xs) o).lookup t with
  | none=>
    rw[hn]at hy;obtain⟨u1,u2⟩:=Bo (f:=LU (l.zip xs) i) (show (FD (l.zip xs) ρ0 i).lookup t=some y by simpa using hy);refine q2 t y u2 fun j p hp hl hdt=>?_;have:=List.all_eq_true.1 u1 p (List.mem_of_getElem? hp);simp only[Bool.or_eq_true,bne_iff_ne,ne_eq,hdt,not_true,false_or,List.any_eq_true,Bool.and_eq_true,beq_iff_eq]at this;obtain⟨e,he,hb,hon⟩:=this;have hc:=inv.closed j p hp hl e he hb;rw[hon]at hc;rw[Array.getD_eq_getD_getElem?]at hc k2
    cases hz:listed[i]? with
    | none=>rw[hz]at hc;cases hc
    | some b=>rw[hz]at hc k2;simp at hc k2;rw[hc]at k2;cases k2
  | some z=>
    rw[hn]at hy;cases hy
    have hm:=C5 hn;simp only[Bk,List.mem_filterMap]at hm;obtain⟨e,he,hf⟩:=hm;by_cases hb:Region.binds .any e=true
    ·rw[if_pos hb]at hf
     cases hp:(l.zip xs)[e.on]? with
     | none=>rw[hp]at hf;cases hf
     | some p=>
       rw[hp]at hf;simp only[Option.bind_some,Option.map_eq_some_iff]at hf;obtain⟨d',hd',he'⟩:=hf;cases he';exact q3 e.on p _ hp (k3 e he hb) hd'
    ·rw[if_neg hb]at hf;cases hf
 have wl:=hao F g' a w (fun e a' w'=>match e with
  | .normal=>∃ g'' ρ' H',g'.le g''∧A2 g'' ρ' a'∧a'.tmps.size=N∧a'.defers=a.defers∧Ak F g'' H' w'∧(∃ d,o.dst=some d∧ρ'.lookup d=some x)∧BS H H'
  | e=>R e a' w') hes inv.size q4 (fun g'' ρ' H' a' w' j1 j2 j3 j4 j5 j6=>⟨g'',ρ',H',j1,j2,j3,j4,j5,j6⟩)
 have fin:∀ a' w',(∃ g'' ρ' H',g'.le g''∧A2 g'' ρ' a'∧a'.tmps.size=N∧a'.defers=a.defers∧Ak F g'' H' w'∧(∃ d,o.dst=some d∧ρ'.lookup d=some x)∧BS H H')→(∃ v,a'.tmps=(a.put o.dst v).tmps)→
  Cd F g ρ0 H N ds (l.zip xs) (listed.setIfInBounds i true) a' w':=by
  rintro a' w' ⟨g'',ρ',H',j1,j2,j3,j4,j5,⟨d',hd',j6⟩,j7⟩ ⟨v,hv⟩;obtain rfl:d=d':=Option.some.inj (hd.symm.trans hd');rw[hd]at hv;have old:∀ t,t≠d→a'.tmps.getD t undef=a.tmps.getD t undef:=fun t ht=>by rw[hv];exact G4 ht
  have stays:∀ j,listed.getD j false=true→(listed.setIfInBounds i true).getD j false=true:=fun j hj=>by
   rw[Array.getD_eq_getD_getElem?]at hj⊢
   rw[Array.getElem?_setIfInBounds];by_cases e:i=j
   ·subst e
    cases hz:listed[i]? with
    | none=>rw[hz]at hj;cases hj
    | some b=>rw[if_pos rfl,if_pos (Array.getElem?_eq_some_iff.1 hz).1];rfl
   ·rw[if_neg e];exact hj
  have hlt:i<listed.size:=by
   rw[Array.getD_eq_getD_getElem?]at k2
   cases hz:listed[i]? with
   | none=>rw[hz]at k2;cases k2
   | some b=>exact(Array.getElem?_eq_some_iff.1 hz).1
  have now:(listed.setIfInBounds i true).getD i false=true:=by
   rw[Array.getD_eq_getD_getElem?,Array.getElem?_setIfInBounds,if_pos rfl,if_pos hlt];rfl
  refine⟨⟨g'',q1.trans j1,?_,?_,j5.sub j7⟩,j3,j4.trans inv.defers,fun j p hp hl e he hb=>?_⟩
  ·intro t y hy hfree;have ht:t≠d:=by
    rintro rfl;exact hfree i _ hx now hd
   rw[old t ht];exact(q2 t y hy fun j p hp hl=>hfree j p hp (stays j hl)).mono j1
  ·intro j p e hp hl he;by_cases hji:j=i
   ·subst hji;rw[hx]at hp;cases hp
    rw[hd]at he;cases he
    exact j2 d x j6
   ·have hne:e≠d:=by
     rintro rfl;exact hji (hB.nodup j i p.1 o e (DP hp) hol he hd)
    rw[old e hne];exact(q3 j p e hp ((Fl hl).resolve_left hji) he).mono j1
  ·rcases Fl hl with rfl|h'
   ·rw[hx]at hp;cases hp
    exact stays _ (k3 e he hb)
   ·exact stays _ (inv.closed j p hp h' e he hb)
 unfold wpOp;rw[ho];simp only[wpList]at wl;show (if Region.wanted o (yielded l.toArray a.tmps)=true then _ else _);by_cases hw:Region.wanted o (yielded l.toArray a.tmps)=true
 ·rw[if_pos hw]at wl⊢
  refine JI (Q:=fun e a' w'=>match e with
   | .normal=>∃ g'' ρ' H',g'.le g''∧A2 g'' ρ' a'∧a'.tmps.size=N∧a'.defers=a.defers∧Ak F g'' H' w'∧(∃ d,o.dst=some d∧ρ'.lookup d=some x)∧BS H H'
   | e=>R e a' w') (fun e a w he h=>by cases e<;>first|exact absurd rfl he|exact h) (fun a' w' h=>fin a' w' h.1 h.2) (wl.imp K4 id)
 ·rw[if_neg hw]at wl⊢
  exact fin _ _ wl ⟨undef,rfl⟩
theorem LO {listed:Array Bool} (hB:IL l) (hsz:listed.size=l.length) (h:Region.ready .any l.toArray listed=[]):∀ i,i<l.length→listed.getD i true=true:=by
 intro i
 induction i using Nat.strongRecOn with
 | _ i ih=>
   intro hi
   cases hc:listed.getD i true with
   | true=>rfl
   | false=>
     exfalso
     have hr:i∈Region.ready .any l.toArray listed:=Fu (o:=l[i]) (by simp[hi]) hc (fun e he hbd=>by
      have hlt:=hB.back i l[i] (by simp[hi]) e he hbd;have:=ih e.on hlt (by omega);rw[Array.getD_eq_getD_getElem?,Array.getElem?_eq_getElem (by omega)]at this⊢
      exact this)
     rw[h]at hr;cases hr
theorem N6 (hlen:xs.length=l.length) (hB:IL l) (hS:DJ P N l.toArray (l.zip xs) ρ0 H 0 (l.zip xs))
 (hk:∀ a' w',Cd F g ρ0 H N ds (l.zip xs) (Array.replicate l.length true) a' w'→R .normal a' w'):∀ (fuel:Nat) (listed:Array Bool) (a:Act) (w:World),listed.size=l.length→listed.toList.count false≤fuel→Cd F g ρ0 H N ds (l.zip xs) listed a w→
 wpAny P .any l.toArray R fuel listed a w:=by
 have done:∀ (listed:Array Bool) (a:Act) (w:World),listed.size=l.length→Region.ready .any l.toArray listed=[]→Cd F g ρ0 H N ds (l.zip xs) listed a w→R .normal a w:=by
  intro listed a w hsz hr inv;have on:∀ j,j<l.length→listed.getD j false=true:=fun j hj=>by
   have:=LO hB hsz hr j hj;rw[Array.getD_eq_getD_getElem?,Array.getElem?_eq_getElem (by omega)]at this⊢
   exact this
  have tr:∀ j,(Array.replicate l.length true).getD j false=true→j<l.length:=fun j hj=>by
   rw[Array.getD_eq_getD_getElem?]at hj;by_cases e:j<l.length
   ·exact e
   ·simp[e]at hj
  refine hk a w ⟨?_,inv.size,inv.defers,fun j p hp hl e he hb=>?_⟩
  ·obtain⟨g',q1,q2,q3,q4⟩:=inv.inv
   exact⟨g',q1,fun t x hx hf=>q2 t x hx fun j p hp _=>hf j p hp (by
    have hj:j<l.length:=(List.getElem?_eq_some_iff.1 (DP hp)).1
    rw[Array.getD_eq_getD_getElem?];simp[hj]),fun j p d hp hl hd=>q3 j p d hp (on j (tr j hl)) hd,q4⟩
  ·have hj:=tr j hl;have:=hB.back j p.1 (DP hp) e he hb;rw[Array.getD_eq_getD_getElem?];simp[show e.on<l.length by omega]
 intro fuel
 induction fuel with
 | zero=>
   intro listed a w hsz hc inv;have hr:Region.ready .any l.toArray listed=[]:=by
    cases e:Region.ready .any l.toArray listed with
    | nil=>rfl
    | cons i r=>
      exfalso;obtain⟨k1,k2,_⟩:=BW (i:=i) (by rw[e];simp);have hi:i<listed.size:=by simpa [hsz]using k1
      rw[Array.getD_eq_getD_getElem?,Array.getElem?_eq_getElem hi]at k2;have:false∈listed.toList:=by rw[←show listed[i]=false from k2];simp
      have:=List.count_pos_iff.2 this;omega
   exact⟨hr,done listed a w hsz hr inv⟩
 | succ fuel ih=>
   intro listed a w hsz hc inv;refine⟨fun hr=>done listed a w hsz hr inv,fun i hi=>wpOp_mono (fun a' w' h=>ih _ a' w' (by simpa using hsz) ?_ h) (M8 hlen hB hS inv hi)⟩;obtain⟨k1,k2,_⟩:=BW hi;have hi':i<listed.size:=by simpa [hsz]using k1
   rw[Array.getD_eq_getD_getElem?,Array.getElem?_eq_getElem hi']at k2;have hf:listed.toList[i]'(by simpa using hi')=false:=by simpa using k2
   have e2:(listed.toList.set i true).count false=listed.toList.count false-1+0:=by
    rw[List.count_set (by simpa using hi'),hf];rfl
   have:false∈listed.toList:=by rw[←hf];exact List.getElem_mem _
   have:=List.count_pos_iff.2 this;rw[Array.toList_setIfInBounds,e2];omega
end
theorem Bx {t:Nat} {x:AV}:∀ {ρ:AZ},ρ.lookup t=none→(t,x)∈ρ→False
 | [],_,h=>by cases h
 | (u,y)::r,h,hm=>by
   rw[Aq]at h;by_cases e:t=u
   ·rw[if_pos e]at h;cases h
   ·rw[if_neg e]at h;rcases List.mem_cons.1 hm with h'|h'
    ·cases h';exact e rfl
    ·exact Bx h h'
theorem Ha {all:List (Oper×AV)} {t:Nat} {x:AV} (h:(FS all).lookup t=some x):∃ (j:Nat) (p:Oper×AV),all[j]? =some p∧p.1.dst=some t∧p.2=x:=by
 have hm:=C5 h;simp only[FS,List.mem_filterMap,Option.map_eq_some_iff]at hm;obtain⟨p,hp,d,hd,he⟩:=hm;cases he;obtain⟨j,hj⟩:=List.getElem?_of_mem hp;exact⟨j,p,hj,hd,rfl⟩
theorem AW.regAny {P:Program} {N:Nat} {ρ:AZ} {H:AN} {Q:Exit→AZ→AN→Prop} {id:Nat} {l:List Oper} (hm:P.follows .mixedOrders=true) (hB:Nb l=true) (xs:List AV) (ρ0:AZ) (hs:Cs ρ0 ρ) (hlen:xs.length=l.length)
 (h:DJ P N l.toArray (l.zip xs) ρ0 H 0 (l.zip xs)) (ρ':AZ) (H':AN) (he:Cs ρ' (FS (l.zip xs)++ρ0)) (hH:BS H' H) (hk:Q .normal ρ' H'):AW P N (.region id l.toArray true) Q ρ H:=by
 intro F g a w R h1 h2 h3 h4;refine wp_region_any hm ?_;have hB':=Lb hB;have h3':Ak F g H {w with drawn:=w.drawn+1}:=h3.of_below (Below.refl _ _).drew;have no:∀ (j:Nat),(Array.replicate l.length false).getD j false=true→False:=fun j hl=>by
  rw[Array.getD_eq_getD_getElem?]at hl;by_cases hj:j<l.length
  ·simp[hj]at hl
  ·simp[hj]at hl
 refine N6 (F:=F) (g:=g) (ds:=a.defers) hlen hB' h (fun a' w' inv=>?_) _ _ a _ (by simp) (by simp) ⟨⟨g,.refl g,fun t x hx _=>hs.sat h1 t x hx,fun j p d _ hl _=>(no j hl).elim,h3'⟩,h2,rfl,fun j p _ hl=>(no j hl).elim⟩;obtain⟨g',q1,q2,q3,q4⟩:=inv.inv;refine h4 _ g' ρ' H' a' w' q1 (he.sat ?_) inv.size inv.defers (q4.sub hH) hk;intro t y hy;rw[A4]at hy
 cases hn:(FS (l.zip xs)).lookup t with
 | none=>
   rw[hn]at hy;refine q2 t y (by simpa using hy) fun j p hp _ hd=>?_;have:(t,p.2)∈FS (l.zip xs):=by
    simp only[FS,List.mem_filterMap,Option.map_eq_some_iff];exact⟨p,List.mem_of_getElem? hp,t,hd,rfl⟩
   exact Bx hn this
 | some z=>
   rw[hn]at hy;cases hy
   obtain⟨j,p,hp,hd,rfl⟩:=Ha hn;refine q3 j p t hp ?_ hd;have hj:j<l.length:=(List.getElem?_eq_some_iff.1 (DP hp)).1;rw[Array.getD_eq_getD_getElem?];simp[hj]
theorem Av {α:Type} {g:G} {n:Nat} {l:List α} {i:Int} {x:α} {v:Value} (h:V g (.own n 0 l.length) v):V g (.own n 0 (Ac l i x).length) v:=by
 have e:(Ac l i x).length=l.length:=by simp[Ac]
 rw[e];exact h
section
variable {P:Program} {N:Nat} {ops:Array Oper} {o:Oper} {rest:List Oper} {K:AZ→AN→Prop} {ρ:AZ} {H:AN}
end
section
variable {P:Program} {o:Oper} {ρ:AZ} {H:AN}
def St (P:Program) (f:FuncId) (e:Array Value→Sem Value):Prop:=∃ fn,P.funcs[f]? =some fn∧(fn.name== "runtime.NumGoroutine")=false∧fn.body.isNone=true∧Extern.findNext fn=none∧Extern.find fn=some e
theorem Hi {g:G} {a:Act} (s:A2 g ρ a):∀ {ys:List Operand} {xs:List AV} {vs:List Value},OH ρ ys xs→AV.flats xs=some vs→ys.map a.eval=vs
 | [],[],vs,_,h=>by cases h;rfl
 | y::ys,x::xs,vs,h,hv=>by
   cases x with
   | fl v=>
     simp only[AV.flats,Option.map_eq_some_iff]at hv;obtain⟨m,hm,rfl⟩:=hv;have e:a.eval y=v:=s.ev h.1;rw[List.map_cons,e,Hi s h.2.2 hm]
   | _=>cases hv
 | [],_::_,_,h,_=>h.elim
 | _::_,[],_,h,_=>h.elim
theorem AG.ext {fo:Operand} {as:List Operand} {A:Array TypeId} {f:FuncId} {e:Array Value→Sem Value} (args:List AV) (vs:List Value) {v:Value} (ho:o.op=.call {callee:=.value fo,args:=as.toArray,argTypes:=A}) (hf:AZ.ev ρ fo=some (.fl (.func (.func f) #[] #[])))
 (hok:St P f e) (ha:OH ρ as args) (hv:AV.flats args=some vs) (hr:∀ w,(e vs.toArray).run P w=.ok v w):AG P o ρ H (.fl v):=
 AG.of_flat fun g a s w=>by
  obtain⟨fn,h1,h2,h3,h4,h5⟩:=hok;have hfo:a.eval fo=.func (.func f) #[] #[]:=s.ev hf;have key:=run_callFunc_extern h1 h2 h3 h4 h5 (as.map a.eval).toArray w;rw[Hi s ha hv,hr]at key;simp[execOp,ho,resolve,hfo,Deferred.ofValue,invoke,Hi s ha hv,key]
end
end Go.Avl
namespace Go.Avl
open Go Go.RowKit
set_option linter.all false
theorem A5 (s:ByteArray) (i:Int):0≤AF s i∧AF s i≤255:=by
 unfold AF;split
 ·have:=(s[i.toNat]).toNat_lt;omega
 ·omega
theorem HD (s:ByteArray) (i j x:Int) (h0:0≤i) (h1:i≤j) (h2:j≤(s.size:Int)) (hx:0≤x) (hx1:x<j-i):AF (s.extract i.toNat j.toNat) x=AF s (i+x):=by
 have hs:(s.extract i.toNat j.toNat).size=j.toNat-i.toNat:=by rw[ByteArray.size_extract];omega
 unfold AF;rw[dif_pos (by omega),dif_pos (by omega)];have:(i+x).toNat=i.toNat+x.toNat:=by omega
 simp only[this];rw[ByteArray.getElem_extract]
theorem E5 {l m:List Int} (hl:∀ x∈l,0≤x∧x≤255) (hm:∀ x∈m,0≤x∧x≤255) (h:strOfNums l=strOfNums m):l=m:=by
 have h1:=congrArg (fun s:ByteArray=>s.data.toList) h;simp only[strOfNums_data]at h1;have key:∀ (l:List Int),(∀ x∈l,0≤x∧x≤255)→((l.map fun n=>UInt8.ofNat n.toNat).map fun b=>(b.toNat:Int))=l:=by
  intro l hl;rw[List.map_map]
  conv=>rhs;rw[←List.map_id l]
  apply List.map_congr_left;intro x hx;have:=hl x hx;simp[UInt8.toNat_ofNat'];omega
 rw[←key l hl, ←key m hm,h1]
theorem Jv (t:ByteArray):t=strOfNums ((List.range t.size).map fun i:Nat=>AF t (i:Int)):=by
 apply ByteArray.ext;apply Array.ext';rw[strOfNums_data];apply List.ext_getElem
 ·simp
 ·intro i h1 h2;have h3:i<t.size:=by simpa using h1
  have e:AF t (i:Int)=((t[i]'h3).toNat:Int):=by unfold AF;rw[dif_pos (show (i:Int).toNat<t.size by omega)];rfl
  simp[e];rfl
theorem FC (s:ByteArray) (n:Nat) (h:n≤s.size):s.extract 0 n=strOfNums ((List.range n).map fun i:Nat=>AF s (i:Int)):=by
 have hs:(s.extract 0 n).size=n:=by rw[ByteArray.size_extract];omega
 rw[Jv (s.extract 0 n),hs];congr 1;apply List.map_congr_left;intro i hi;have hi:=List.mem_range.1 hi;have:=HD s 0 (n:Int) (i:Int) (by omega) (by omega) (by omega) (by omega) (by omega);simpa using this
section
variable {P:Program} {N:Nat} {ops:Array Oper} {o:Oper} {rest:List Oper} {K:AZ→AN→Prop} {ρ:AZ} {H:AN}
end
section
variable {P:Program} {N:Nat} {ops:Array Oper} {o:Oper} {rest:List Oper} {K:AZ→AN→Prop} {ρ:AZ} {H:AN}
theorem GQ {m:Nat} {E:TypeId} {z:Nat} {α:Type} [DecidableEq α] {f:α→AV} (he:∀ a b,Bc P m E (f a) (f b) (decide (a=b))) (ha:∀ a,Ao P E=some (f a).isAgg) (hz:∀ a,AX P E=some (f a).size) (hzz:∀ a,(f a).size=z) (hc:P.cellsOf E=z)
 {g:G} {xs ys:List α} {l r:List Value} (hx:AU g (.ar z (xs.map f)) l) (hy:AU g (.ar z (ys.map f)) r) (d:Nat) (w:World):∀ is:List Nat,(∀ i∈is,i<xs.length∧i<ys.length)→
 (Op.eqItems (d+m) E (P.cellsOf E) l.toArray r.toArray is).run P w=.ok (is.all fun i=>decide (xs[i]? =ys[i]?)) w
 | [],_=>by simp[Op.eqItems]
 | i::is,h=>by
   obtain⟨h1,h2⟩:=h i (by simp);have k1:At (.ar z (xs.map f)) (i*z) (f xs[i]):=by
    have:=At.idx (z:=z) (cs:=xs.map f) (c:=f xs[i]) i (by simp[h1]) At.here;simpa using this
   have k2:At (.ar z (ys.map f)) (i*z) (f ys[i]):=by
    have:=At.idx (z:=z) (cs:=ys.map f) (c:=f ys[i]) i (by simp[h2]) At.here;simpa using this
   obtain⟨u,hu,ru⟩:=Fk (P:=P) (w:=w) hx k1 (ha _) (hz _);obtain⟨v,hv,rv⟩:=Fk (P:=P) (w:=w) hy k2 (ha _) (hz _);rw[Op.eqItems,hc];simp only[Sem.run_bind,ru,rv,Result.andThen_ok,he xs[i] ys[i] d g u v w hu hv];have hget:decide (xs[i]? =ys[i]?)=decide (xs[i]=ys[i]):=by rw[List.getElem?_eq_getElem h1,List.getElem?_eq_getElem h2];simp
   by_cases e:xs[i]=ys[i]
   ·have ih:=GQ he ha hz hzz hc hx hy d w is (fun j hj=>h j (by simp[hj]));rw[hc]at ih;simp[e,hget,ih]
   ·simp[e,hget]
theorem Bc.vec {m n:Nat} {T E:TypeId} {z:Nat} {α:Type} [DecidableEq α] {f:α→AV} (ht:P.underlying T=some (.array n E)) (he:∀ a b,Bc P m E (f a) (f b) (decide (a=b))) (ha:∀ a,Ao P E=some (f a).isAgg) (hz:∀ a,AX P E=some (f a).size) (hzz:∀ a,(f a).size=z) (hc:P.cellsOf E=z)
 (hi:∃ i,P.info? E=some i) (x y:Vector α n):Bc P (m+1) T (.ar z (x.toList.map f)) (.ar z (y.toList.map f)) (decide (x=y)):=fun d g u v w h1 h2=>by
 obtain⟨l,rfl,hl⟩:=h1;obtain⟨r,rfl,hr⟩:=h2;obtain⟨i,hi⟩:=hi;have:=run_equalIn_array (P:=P) (w:=w) (d+m) l.toArray r.toArray ht hi;rw[show d+(m+1)=(d+m)+1 by omega,this,GQ he ha hz hzz hc hl hr d w (List.range n) (fun i hi=>by simpa using hi)];congr 1;rw[Bool.eq_iff_iff,List.all_eq_true];simp only[List.mem_range,decide_eq_true_eq];constructor
 ·intro h;apply Vector.toList_inj.1;apply List.ext_getElem?;intro j;by_cases hj:j<n
  ·exact h j hj
  ·rw[List.getElem?_eq_none (by simpa using hj),List.getElem?_eq_none (by simpa using hj)]
 ·rintro rfl j _;rfl
theorem AG.eqA {T T':TypeId} {y z:Operand} {q q' m:Nat} {cs ds:List AV} {b:Bool} (ho:o.op=.binOp .eql T y z T') (hy:AZ.ev ρ y=some (.ar q cs)) (hz:AZ.ev ρ z=some (.ar q' ds))
 (hg:P.eqGuardType P.depth T=false) (he:Bc P m T (.ar q cs) (.ar q' ds) b) (hm:m≤10000):AG P o ρ H (.fl (.bool b)):=
 AG.of_flat fun g a s w=>by
  have e1:V1 g (.ar q cs) (a.eval y):=s.ev hy;have e2:V1 g (.ar q' ds) (a.eval z):=s.ev hz;have r:=he (10000-m) g _ _ w e1 e2;rw[show 10000-m+m=10000 by omega]at r;obtain⟨l,el,_⟩:=e1;obtain⟨k,ek,_⟩:=e2;rw[el,ek]at r;simp[execOp,ho,el,ek,run_eqGuard_agg (P:=P) w .eql T y z l.toArray k.toArray hg,run_eql_struct (P:=P) w,r]
end
end Go.Avl
