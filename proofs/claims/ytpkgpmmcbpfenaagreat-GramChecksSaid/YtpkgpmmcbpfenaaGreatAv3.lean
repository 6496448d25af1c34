/- Parts: Av22, Av23, Av24, Av25, Av26, Av27, Av28, Av29, Av30, Av31, Av33, Av41, Av40. -/
import Derived.Test.YtpkgpmmcbpfenaaGreatAv2
import Derived.Maps.Keyed
import Derived.Carry
import Derived.Scope
import Derived.WalkSpells
namespace Go.Avl
open Go Go.RowKit
set_option linter.all false
section
variable {P:Program} {N:Nat} {F:Fr} {g:G} {ρ0:AZ} {H:AN} {ds:List Deferred} {l:List Oper} {xs:List AV} {R:Exit→Act→World→Prop}
theorem MH {tl:List Oper} (hlen:xs.length=l.length) (hB:IL l) (hS:DJ P N (l++tl).toArray (l.zip xs) ρ0 H 0 (l.zip xs)) {listed:Array Bool} {a:Act} {w:World} (inv:Cd F g ρ0 H N ds (l.zip xs) listed a w) {i:Nat} (hi:i∈Region.ready .any (l++tl).toArray listed) (hil:i<l.length):
 wpOp P (l++tl).toArray R i (fun a' w'=>Cd F g ρ0 H N ds (l.zip xs) (listed.setIfInBounds i true) a' w') a w:=by
 obtain⟨k1,k2,o,ho,k3⟩:=BW hi;have hol:l[i]? =some o:=by
  have:(l++tl)[i]? =some o:=by simpa using ho
  rwa [List.getElem?_append_left hil]at this
 obtain⟨x,hx⟩:=L7 hlen hol;obtain⟨d,hd⟩:=hB.dst i o hol;obtain⟨g',q1,q2,q3,q4⟩:=inv.inv;have hao:=hS.get hx;rw[Nat.zero_add]at hao;have hes:A2 g' (Bk (l.zip xs) o++FD (l.zip xs) ρ0 i) a:=by
  intro t y hy;rw[A4]at hy
  cases hn:(Bk (l.zip xs) o).lookup t with
  | none=>
    rw[hn]at hy;obtain⟨u1,u2⟩:=Bo (f:=LU (l.zip xs) i) (show (FD (l.zip xs) ρ0 i).lookup t=some y by simpa using hy);refine q2 t y u2 fun j p hp hl hdt=>?_;have:=List.all_eq_true.1 u1 p (List.mem_of_getElem? hp);simp only[Bool.or_eq_true,bne_iff_ne,ne_eq,hdt,not_true,false_or,List.any_eq_true,Bool.and_eq_true,beq_iff_eq]at this;obtain⟨e,he,hb,hon⟩:=this;have hc:=inv.closed j p hp hl e he hb;rw[hon]at hc;rw[Array.getD_eq_getD_getElem?]at hc k2
    cases hz:listed[i]? with
    | none=>rw[hz]at hc;cases hc
    | some b=>rw[hz]at hc k2;simp at hc k2;rw[hc]at k2;cases k2
  | some z=>
    rw[hn]at hy;cases hy
    have hm:=C5 hn;simp only[Bk,List.mem_filterMap]at hm;obtain⟨e,he,hf⟩:=hm;by_cases hb:Region.binds .any e=true
    ·rw[if_pos hb]at hf
     cases hp:(l.zip xs)[e.on]? with
     | none=>rw[hp]at hf;cases hf
     | some p=>
       rw[hp]at hf;simp only[Option.bind_some,Option.map_eq_some_iff]at hf;obtain⟨d',hd',he'⟩:=hf;cases he';exact q3 e.on p _ hp (k3 e he hb) hd'
    ·rw[if_neg hb]at hf;cases hf
 have wl:=hao F g' a w (fun e a' w'=>match e with
  | .normal=>∃ g'' ρ' H',g'.le g''∧A2 g'' ρ' a'∧a'.tmps.size=N∧a'.defers=a.defers∧Ak F g'' H' w'∧(∃ d,o.dst=some d∧ρ'.lookup d=some x)∧BS H H'
  | e=>R e a' w') hes inv.size q4 (fun g'' ρ' H' a' w' j1 j2 j3 j4 j5 j6=>⟨g'',ρ',H',j1,j2,j3,j4,j5,j6⟩)
 have fin:∀ a' w',(∃ g'' ρ' H',g'.le g''∧A2 g'' ρ' a'∧a'.tmps.size=N∧a'.defers=a.defers∧Ak F g'' H' w'∧(∃ d,o.dst=some d∧ρ'.lookup d=some x)∧BS H H')→(∃ v,a'.tmps=(a.put o.dst v).tmps)→
  Cd F g ρ0 H N ds (l.zip xs) (listed.setIfInBounds i true) a' w':=by
  rintro a' w' ⟨g'',ρ',H',j1,j2,j3,j4,j5,⟨d',hd',j6⟩,j7⟩ ⟨v,hv⟩;obtain rfl:d=d':=Option.some.inj (hd.symm.trans hd');rw[hd]at hv;have old:∀ t,t≠d→a'.tmps.getD t undef=a.tmps.getD t undef:=fun t ht=>by rw[hv];exact G4 ht
  have stays:∀ j,listed.getD j false=true→(listed.setIfInBounds i true).getD j false=true:=fun j hj=>by
   rw[Array.getD_eq_getD_getElem?]at hj⊢
   rw[Array.getElem?_setIfInBounds];by_cases e:i=j
   ·subst e
    cases hz:listed[i]? with
    | none=>rw[hz]at hj;cases hj
    | some b=>rw[if_pos rfl,if_pos (Array.getElem?_eq_some_iff.1 hz).1];rfl
   ·rw[if_neg e];exact hj
  have hlt:i<listed.size:=by
   rw[Array.getD_eq_getD_getElem?]at k2
   cases hz:listed[i]? with
   | none=>rw[hz]at k2;cases k2
   | some b=>exact(Array.getElem?_eq_some_iff.1 hz).1
  have now:(listed.setIfInBounds i true).getD i false=true:=by
   rw[Array.getD_eq_getD_getElem?,Array.getElem?_setIfInBounds,if_pos rfl,if_pos hlt];rfl
  refine⟨⟨g'',q1.trans j1,?_,?_,j5.sub j7⟩,j3,j4.trans inv.defers,fun j p hp hl e he hb=>?_⟩
  ·intro t y hy hfree;have ht:t≠d:=by
    rintro rfl;exact hfree i _ hx now hd
   rw[old t ht];exact(q2 t y hy fun j p hp hl=>hfree j p hp (stays j hl)).mono j1
  ·intro j p e hp hl he;by_cases hji:j=i
   ·subst hji;rw[hx]at hp;cases hp
    rw[hd]at he;cases he
    exact j2 d x j6
   ·have hne:e≠d:=by
     rintro rfl;exact hji (hB.nodup j i p.1 o e (DP hp) hol he hd)
    rw[old e hne];exact(q3 j p e hp ((Fl hl).resolve_left hji) he).mono j1
  ·rcases Fl hl with rfl|h'
   ·rw[hx]at hp;cases hp
    exact stays _ (k3 e he hb)
   ·exact stays _ (inv.closed j p hp h' e he hb)
 unfold wpOp;rw[ho];simp only[wpList]at wl;show (if Region.wanted o (yielded (l++tl).toArray a.tmps)=true then _ else _);by_cases hw:Region.wanted o (yielded (l++tl).toArray a.tmps)=true
 ·rw[if_pos hw]at wl⊢
  refine JI (Q:=fun e a' w'=>match e with
   | .normal=>∃ g'' ρ' H',g'.le g''∧A2 g'' ρ' a'∧a'.tmps.size=N∧a'.defers=a.defers∧Ak F g'' H' w'∧(∃ d,o.dst=some d∧ρ'.lookup d=some x)∧BS H H'
   | e=>R e a' w') (fun e a w he h=>by cases e<;>first|exact absurd rfl he|exact h) (fun a' w' h=>fin a' w' h.1 h.2) (wl.imp K4 id)
 ·rw[if_neg hw]at wl⊢
  exact fin _ _ wl ⟨undef,rfl⟩
def Lf (n:Nat) (s:Oper):Bool:=s.dst.isNone&&(List.range n).all (fun i=>s.after.toList.any fun e=>Region.binds .any e&&e.on==i)&&s.after.toList.all fun e=>decide (e.on<n)
theorem MG {s:Oper} {ρ1:AZ} (hlen:xs.length=l.length) (hB:IL l) (hl:Lf l.length s=true) (hS:DJ P N (l++[s]).toArray (l.zip xs) ρ0 H 0 (l.zip xs))
 (hlast:∀ a w,Cd F g ρ0 H N ds (l.zip xs) ((Array.replicate l.length true).push false) a w→wpOp P (l++[s]).toArray R l.length (fun a' w'=>R .normal a' w') a w):∀ (fuel:Nat) (listed:Array Bool) (a:Act) (w:World),listed.size=l.length+1→listed.getD l.length true=false→listed.toList.count false≤fuel→Cd F g ρ0 H N ds (l.zip xs) listed a w→
 wpAny P .any (l++[s]).toArray R fuel listed a w:=by
 simp only[Lf,Bool.and_eq_true,List.all_eq_true,List.mem_range,List.any_eq_true,beq_iff_eq,decide_eq_true_eq]at hl;obtain⟨⟨hl0,hl1⟩,hl2⟩:=hl;have hget:∀ i,i<l.length→(l++[s]).toArray[i]? =l[i]? :=fun i hi=>by simp[List.getElem?_append_left hi]
 have hgs:(l++[s]).toArray[l.length]? =some s:=by simp
 have some_ready:∀ listed:Array Bool,listed.size=l.length+1→listed.getD l.length true=false→Region.ready .any (l++[s]).toArray listed≠[]:=by
  intro listed hsz hn hr;have key:∀ i,i<l.length→listed.getD i false=true:=by
   intro i
   induction i using Nat.strongRecOn with
   | _ i ih=>
     intro hi
     cases hc:listed.getD i true with
     | true=>
       rw[Array.getD_eq_getD_getElem?,Array.getElem?_eq_getElem (by omega)]at hc⊢
       exact hc
     | false=>
       exfalso;have:i∈Region.ready .any (l++[s]).toArray listed:=Fu (o:=l[i]) (by rw[hget i hi];simp[hi]) hc (fun e he hbd=>ih e.on (hB.back i l[i] (by simp[hi]) e he hbd) (by have:=hB.back i l[i] (by simp[hi]) e he hbd;omega));rw[hr]at this;cases this
  have:l.length∈Region.ready .any (l++[s]).toArray listed:=Fu (o:=s) hgs hn (fun e he _=>key e.on (hl2 e he));rw[hr]at this;cases this
 intro fuel
 induction fuel with
 | zero=>
   intro listed a w hsz hn hc inv;exfalso;have:false∈listed.toList:=by
    rw[Array.getD_eq_getD_getElem?,Array.getElem?_eq_getElem (by omega)]at hn;rw[←show listed[l.length]'(by omega)=false from hn];simp
   have:=List.count_pos_iff.2 this;omega
 | succ fuel ih=>
   intro listed a w hsz hn hc inv;refine⟨fun hr=>absurd hr (some_ready listed hsz hn),fun i hi=>?_⟩;obtain⟨k1,k2,o,ho,k3⟩:=BW hi;have hi':i<listed.size:=by rw[hsz];simpa using k1
   by_cases hil:i<l.length
   ·refine wpOp_mono (fun a' w' h=>ih _ a' w' (by simpa using hsz) ?_ ?_ h) (MH hlen hB hS inv hi hil)
    ·rw[Array.getD_eq_getD_getElem?]at hn⊢
     rw[Array.getElem?_setIfInBounds,if_neg (by omega)];exact hn
    ·rw[Array.getD_eq_getD_getElem?,Array.getElem?_eq_getElem hi']at k2;have hf:listed.toList[i]'(by simpa using hi')=false:=by simpa using k2
     have e2:(listed.toList.set i true).count false=listed.toList.count false-1+0:=by
      rw[List.count_set (by simpa using hi'),hf];rfl
     have:false∈listed.toList:=by rw[←hf];exact List.getElem_mem _
     have:=List.count_pos_iff.2 this;rw[Array.toList_setIfInBounds,e2];omega
   ·obtain rfl:i=l.length:=by omega
    have hos:o=s:=Option.some.inj (ho.symm.trans hgs);subst hos;have on:∀ j,j<l.length→listed.getD j false=true:=fun j hj=>by
     obtain⟨e,he,hb,hon⟩:=hl1 j hj;have:=k3 e he hb;rw[hon]at this;exact this
    have hl3:∀ j p,(l.zip xs)[(j:Nat)]? =some p→j<l.length:=fun j p hp=>(List.getElem?_eq_some_iff.1 (DP hp)).1;have on2:∀ j,j<l.length→((Array.replicate l.length true).push false).getD j false=true:=fun j hj=>by
     rw[Array.getD_eq_getD_getElem?,Array.getElem?_push,if_neg (by simp;omega)];simp[hj]
    have inv':Cd F g ρ0 H N ds (l.zip xs) ((Array.replicate l.length true).push false) a w:=by
     refine⟨?_,inv.size,inv.defers,fun j p hp hl e he hb=>on2 _ (by have:=hB.back j p.1 (DP hp) e he hb;have:=hl3 j p hp;omega)⟩;obtain⟨g',q1,q2,q3,q4⟩:=inv.inv;exact⟨g',q1,fun t x hx hf=>q2 t x hx fun j p hp _=>hf j p hp (on2 j (hl3 j p hp)),fun j p d hp _ hd=>q3 j p d hp (on j (hl3 j p hp)) hd,q4⟩
    refine wpOp_mono (fun a' w' h=>?_) (hlast a w inv');have hr:Region.ready .any (l++[o]).toArray (listed.setIfInBounds l.length true)=[]:=by
     cases e:Region.ready .any (l++[o]).toArray (listed.setIfInBounds l.length true)with
     | nil=>rfl
     | cons i r=>
       exfalso;obtain⟨c1,c2,_⟩:=BW (i:=i) (by rw[e];simp);have c1':i<l.length+1:=by simpa using c1
       rw[Array.getD_eq_getD_getElem?,Array.getElem?_setIfInBounds]at c2;by_cases q:l.length=i
       ·rw[if_pos q,if_pos (by omega)]at c2;cases c2
       ·rw[if_neg q]at c2;have:=on i (by omega);rw[Array.getD_eq_getD_getElem?]at this;rw[Array.getElem?_eq_getElem (by omega)]at this c2;simp at this c2;rw[this]at c2;cases c2
    cases fuel with
    | zero=>exact⟨hr,h⟩
    | succ f=>exact⟨fun _=>h,fun i hi=>by rw[hr]at hi;cases hi⟩
end
theorem AW.regAnyS {P:Program} {N:Nat} {ρ:AZ} {H:AN} {Q:Exit→AZ→AN→Prop} {id:Nat} {l:List Oper} {s:Oper} (hm:P.follows .mixedOrders=true) (hB:Nb l=true) (hl:Lf l.length s=true) (xs:List AV) (ρ0:AZ) (hs:Cs ρ0 ρ) (hlen:xs.length=l.length)
 (h:DJ P N (l++[s]).toArray (l.zip xs) ρ0 H 0 (l.zip xs)) (ρ':AZ) (he:Cs ρ' (FS (l.zip xs)++ρ0)) (hk:AO P N (l++[s]).toArray [s] (Q .normal) ρ' H):AW P N (.region id (l++[s]).toArray true) Q ρ H:=by
 intro F g a w R h1 h2 h3 h4;refine wp_region_any hm ?_;have hB':=Lb hB;have h3':Ak F g H {w with drawn:=w.drawn+1}:=h3.of_below (Below.refl _ _).drew;have no:∀ (j:Nat),(Array.replicate (l++[s]).length false).getD j false=true→False:=fun j hl=>by
  rw[Array.getD_eq_getD_getElem?]at hl;by_cases hj:j<(l++[s]).length
  ·rw[Array.getElem?_eq_getElem (by simpa using hj)]at hl;simp at hl
  ·rw[Array.getElem?_eq_none (by simpa using hj)]at hl;simp at hl
 refine MG (F:=F) (g:=g) (ds:=a.defers) (ρ1:=ρ') hlen hB' hl h (fun a' w' inv=>?_) _ _ a _ (by simp) (by simp[Array.getD_eq_getD_getElem?]) (by simp) ⟨⟨g,.refl g,fun t x hx _=>hs.sat h1 t x hx,fun j p d _ hl _=>(no j hl).elim,h3'⟩,h2,rfl,fun j p _ hl=>(no j hl).elim⟩;obtain⟨g',q1,q2,q3,q4⟩:=inv.inv;have hes:A2 g' ρ' a':=by
  refine he.sat ?_;intro t y hy;rw[A4]at hy
  cases hn:(FS (l.zip xs)).lookup t with
  | none=>
    rw[hn]at hy;refine q2 t y (by simpa using hy) fun j p hp _ hd=>?_;have:(t,p.2)∈FS (l.zip xs):=by
     simp only[FS,List.mem_filterMap,Option.map_eq_some_iff];exact⟨p,List.mem_of_getElem? hp,t,hd,rfl⟩
    exact Bx hn this
  | some z=>
    rw[hn]at hy;cases hy
    obtain⟨j,p,hp,hd,rfl⟩:=Ha hn;refine q3 j p t hp ?_ hd;have hj:j<l.length:=(List.getElem?_eq_some_iff.1 (DP hp)).1;rw[Array.getD_eq_getD_getElem?,Array.getElem?_push,if_neg (by simp;omega)];simp[hj]
 have wl:=hk F g' a' w' (fun e a2 w2=>R e a2 w2) hes inv.size q4 (fun g'' ρ2 H2 a2 w2 j1 j2 j3 j4 j5 j6=>h4 _ g'' ρ2 H2 a2 w2 (q1.trans j1) j2 j3 (j4.trans inv.defers) j5 j6);unfold wpOp;rw[show (l++[s]).toArray[l.length]? =some s by simp];simp only[wpList]at wl;show (if Region.wanted s (yielded (l++[s]).toArray a'.tmps)=true then _ else _);by_cases hw:Region.wanted s (yielded (l++[s]).toArray a'.tmps)=true
 ·rw[if_pos hw]at wl⊢
  exact wl
 ·rw[if_neg hw]at wl⊢
  exact wl
theorem AW.regAnyL {P:Program} {N:Nat} {ρ:AZ} {H:AN} {Q:Exit→AZ→AN→Prop} {id:Nat} {L l:List Oper} {s:Oper} (hd:L.dropLast=l) (hL:L=l++[s]) (hm:P.follows .mixedOrders=true) (hB:Nb l=true) (hl:Lf l.length s=true) (xs:List AV) (ρ0:AZ) (hs:Cs ρ0 ρ) (hlen:xs.length=l.length)
 (h:DJ P N L.toArray (l.zip xs) ρ0 H 0 (l.zip xs)) (ρ':AZ) (he:Cs ρ' (FS (l.zip xs)++ρ0)) (hk:AO P N L.toArray [s] (Q .normal) ρ' H):AW P N (.region id L.toArray true) Q ρ H:=by
 clear hd;subst hL;exact AW.regAnyS hm hB hl xs ρ0 hs hlen h ρ' he hk
section
variable {P:Program} {N:Nat} {ops:Array Oper} {o:Oper} {rest:List Oper} {K:AZ→AN→Prop} {ρ:AZ} {H:AN}
theorem AO.makeL {α:Type} {f:α→AV} (a:α) {T E:TypeId} {y1 y2:Operand} {k1 k2:IntKind} {l:Int} {z by':Nat} {zl:List Value} (hg:o.guard=none) (d:Nat) (hd:o.dst=some d) (hN:d<N) (ho:o.op=.makeSlice T y1 y2) (hy1:AZ.ev ρ y1=some (.fl (.int k1 l))) (hy2:AZ.ev ρ y2=some (.fl (.int k2 l)))
 (ht:P.underlying T=some (.slice E)) (hz:AX P E=some z) (hby:BB P E=some by') (hzero:Ah P E=some zl) (hZ:∀ g,AU g (f a) zl) (hzl:zl.length=z) (h0:0≤l∧l*by'≤140737488355328∧l≤9223372036854775807)
 (h:∀ n,AO P N ops rest K ((d,.own n 0 (List.replicate l.toNat a).length)::ρ) ((n,.mem (.ar z ((List.replicate l.toNat a).map f)))::H)):AO P N ops (o::rest) K ρ H:=by
 refine AO.make (Z:=f a) hg d hd hN ho hy1 hy2 ht hz hby hzero hzl hZ h0.1 (Int.le_refl _) (by have:=h0.2.1;rw[Int.mul_comm]at this;omega) h0.2.2 fun n=>?_;have:=h n;rw[List.length_replicate,List.map_replicate]at this;exact this
end
end Go.Avl
namespace Go.Avl
open Go Go.RowKit Go.MapKept
set_option linter.unusedVariables false
set_option linter.unusedSectionVars false
def An {α β:Type} [DecidableEq α]:List (α×β)→α→Option β
 | [],_=>none
 | e::m,s=>if e.1=s then some e.2 else An m s
def A1 {α β:Type} [DecidableEq α]:List (α×β)→α→β→List (α×β)
 | [],s,v=>[(s,v)]
 | e::m,s,v=>if e.1=s then(s,v)::m else e::A1 m s v
def Ae {α β:Type} (kf:α→Value) (f:β→AV) (m:List (α×β)):List (Value×AV):=m.map fun e=>(kf e.1,f e.2)
def ER (g:G) (e:Value×AV) (m:MapEntry):Prop:=m.key=e.1∧V1 g e.2 m.val
theorem Bs.append {α β:Type} {R:α→β→Prop} {l:List α} {m:List β} (s:Bs R l m) {a:α} {b:β} (h:R a b):Bs R (l++[a]) (m++[b]):=by
 induction s with
 | nil=>exact .cons h .nil
 | cons x _ ih=>exact .cons x ih
section
variable {α β:Type} [DecidableEq α] {kf:α→Value} {f:β→AV} {d:TypeDesc}
theorem GI (hi:∀ a b,kf a=kf b→a=b) (hk:∀ a,IsKey d (kf a)) (g:G) (s:α):∀ (m:List (α×β)) (l:List MapEntry) (i:Nat),Bs (ER g) (Ae kf f m) l→
 (An m s=none∧Instr.findNow d (kf s) l i=some none∧∀ b,A1 m s b=m++[(s,b)])∨
 ∃ j e b,An m s=some b∧Instr.findNow d (kf s) l i=some (some (i+j,e.val))∧l[j]? =some e∧e.key=kf s∧V1 g (f b) e.val∧
  ∀ c x,V1 g (f c) x→Bs (ER g) (Ae kf f (A1 m s c)) (l.set j {e with key:=kf s,val:=x})
 | [],l,i,h=>by cases h;exact .inl ⟨rfl,rfl,fun _=>rfl⟩
 | p::m,l,i,h=>by
   cases h with
   | @cons _ e _ l h1 h2=>
     have hk1:e.key=kf p.1:=h1.1;obtain⟨r,hr,hiff⟩:=sameNow_of_keys (hk s) (show IsKey d e.key by rw[hk1];exact hk p.1);by_cases q:p.1=s
     ·have e1:r=true:=hiff.2 (by rw[hk1,q]);subst e1;refine .inr ⟨0,e,p.2,by rw[An,if_pos q],by simp[Instr.findNow,hr],rfl,by rw[hk1,q],h1.2,fun c x hx=>?_⟩;rw[A1,if_pos q];exact .cons ⟨rfl,hx⟩ h2
     ·have e1:r=false:=by
       cases r with
       | false=>rfl
       | true=>exact absurd (hi _ _ (h1.1.symm.trans (hiff.1 rfl).symm)) q
      subst e1;rcases GI hi hk g s m l (i+1) h2 with⟨k1,k2,k3⟩|⟨j,e',b,k1,k2,k3,k4,k5,k6⟩
      ·exact .inl ⟨by rw[An,if_neg q,k1],by simp[Instr.findNow,hr,k2],fun b=>by rw[A1,if_neg q,k3];rfl⟩
      ·refine .inr ⟨j+1,e',b,by rw[An,if_neg q,k1],by simp[Instr.findNow,hr,k2];omega,by simpa using k3,k4,k5,fun c x hx=>?_⟩;rw[A1,if_neg q];exact .cons h1 (k6 c x hx)
variable {P:Program} {N:Nat} {ops:Array Oper} {o:Oper} {rest:List Oper} {K:AZ→AN→Prop} {ρ:AZ} {H:AN} {x:AV}
theorem AO.makeMap {T:TypeId} (hg:o.guard=none) (dd:Nat) (hd:o.dst=some dd) (hN:dd<N) (ho:o.op=.makeMap T none)
 (h:∀ n,AO P N ops rest K ((dd,.mp n)::ρ) ((n,.map [])::H)):AO P N ops (o::rest) K ρ H:=
 AO.step hg dd hd hN fun F g a w s h3=>by
  have hb:Below w.heap.size w (w.alloc (.map #[] 0)):=(Below.refl _ _).alloc (Nat.le_refl _) _;refine⟨.map (some w.heap.size),{g with nm:=g.nm++[⟨some w.heap.size,0,0,1⟩]},w.alloc (.map #[] 0),.mp g.nm.length,(g.nm.length,.map [])::H,?_,G.le.push g _,?_,?_,h _⟩
  ·simp[execOp,ho,run_makeMap]
  ·exact AU.mp (g:={g with nm:=g.nm++[⟨some w.heap.size,0,0,1⟩]}) (n:=g.nm.length) (p:=⟨some w.heap.size,0,0,1⟩) (by simp) rfl
  ·exact h3.cons hb _ _ (fun b e=>by cases e;exact Nat.le_refl _) ⟨w.heap.size, #[],0,rfl,heap_alloc_new w _,.nil⟩
theorem Ak.mapAt {F:Fr} {g:G} {w:World} (h3:Ak F g H w) {n j b:Nat} {p:Dv} {es:List (Value×AV)} (hn:g.nm[n]? =some p) (hb:p.b=some b) (hj:H[j]? =some (n,.map es)):
 ∃ arr clock,w.heap[b]? =some (.map arr clock)∧Bs (ER g) es arr.toList:=by
 obtain⟨p',h1,h2,_⟩:=h3.obj n _ (List.mem_of_getElem? hj);obtain rfl:p'=p:=Option.some.inj (h1.symm.trans hn);obtain⟨b',arr,clock,e1,e2,e3⟩:=h2;obtain rfl:b'=b:=Option.some.inj (e1.symm.trans hb);exact⟨arr,clock,e2,e3⟩
theorem Jl (hi:∀ a b,kf a=kf b→a=b) (hk:∀ a,IsKey d (kf a)) {F:Fr} {g:G} {w w':World} (h3:Ak F g H w) (hw:Below w.heap.size w w') {T kt et:TypeId} {n j b:Nat} {p:Dv} {m:List (α×β)} {s:α} {z:β}
 (hn:g.nm[n]? =some p) (hb:p.b=some b) (hj:H[j]? =some (n,.map (Ae kf f m))) (ht:P.underlying T=some (.map kt et)) (hkt:P.underlying kt=some d) (hz:∃ zv,((P.info? et).bind (·.zero))=some zv∧V1 g (f z) zv):
 ∃ v,V1 g (f ((An m s).getD z)) v∧(∀ w'',Below w.heap.size w w''→(Instr.lookup T (.map (some b)) (kf s) true).run P w''=.ok (.tuple #[v,.bool (An m s).isSome]) w'')∧(∀ w'',Below w.heap.size w w''→(Instr.lookup T (.map (some b)) (kf s) false).run P w''=.ok v w''):=by
 obtain⟨arr,clock,e2,e3⟩:=h3.mapAt hn hb hj;have hlt:b<w.heap.size:=(Array.getElem?_eq_some_iff.1 e2).1;obtain⟨zv,hz1,hz2⟩:=hz;obtain⟨ti,hti,hti2⟩:=Option.bind_eq_some_iff.1 hz1;rcases GI (f:=f) hi hk g s m arr.toList 0 e3 with⟨k1,k2,_⟩|⟨q,e,c,k1,k2,_,_,k5,_⟩
 ·refine⟨zv,by rw[k1];exact hz2,fun w'' h=>?_,fun w'' h=>?_⟩<;>
  ·have e2':w''.heap[b]? =some (.map arr clock):=by rw[h.block b hlt];exact e2
   have hzv:(zeroValue et).run P w''=.ok zv w'':=by simp[zeroValue,run_typeInfo (P:=P) w'' hti,hti2]
   simp[Instr.lookup,run_underlying ht,MapKept.run_getObj_map e2',MapKept.run_checkKey hkt (hk s),MapKept.run_findKey hkt k2,hzv,Result.andThen,k1]
 ·refine⟨e.val,by rw[k1];exact k5,fun w'' h=>?_,fun w'' h=>?_⟩<;>
  ·have e2':w''.heap[b]? =some (.map arr clock):=by rw[h.block b hlt];exact e2
   simp[Instr.lookup,run_underlying ht,MapKept.run_getObj_map e2',MapKept.run_checkKey hkt (hk s),MapKept.run_findKey hkt k2,Result.andThen,k1]
theorem AG.look2 (hi:∀ a b,kf a=kf b→a=b) (hk:∀ a,IsKey d (kf a)) {T kt et:TypeId} {y iy:Operand} {n:Nat} {m:List (α×β)} {s:α} (z:β) (j:Nat) (ho:o.op=.lookup T y iy true) (hy:AZ.ev ρ y=some (.mp n)) (hiy:AZ.ev ρ iy=some (.fl (kf s)))
 (hj:H[j]? =some (n,.map (Ae kf f m))) (ht:P.underlying T=some (.map kt et)) (hkt:P.underlying kt=some d) (hz:∀ g,∃ zv,((P.info? et).bind (·.zero))=some zv∧V1 g (f z) zv):
 AG P o ρ H (.tup [f ((An m s).getD z),AB (An m s).isSome]):=by
 intro F g a w hs h3;have e1:AU g (.mp n) [a.eval y]:=hs.ev hy;have e2:a.eval iy=kf s:=hs.ev hiy;generalize hv:a.eval y=v at e1
 cases e1 with
 | @mp _ p b hn hb=>
   obtain⟨v,k1,k2,_⟩:=Jl (P:=P) hi hk h3 (Below.refl _ _) (s:=s) (z:=z) hn hb hj ht hkt (hz g);refine⟨.tuple #[v,.bool (An m s).isSome],⟨[v,.bool (An m s).isSome],rfl,.cons k1 (.cons rfl .nil)⟩,fun w' hw=>?_⟩;unfold Oper.quietAt;rw[show (execOp a.eval o).run P w'=.ok (.value (.tuple #[v,.bool (An m s).isSome])) w' by simp[execOp,ho,hv,e2,k2 w' hw]];exact⟨rfl,rfl⟩
theorem AG.look1 (hi:∀ a b,kf a=kf b→a=b) (hk:∀ a,IsKey d (kf a)) {T kt et:TypeId} {y iy:Operand} {n:Nat} {m:List (α×β)} {s:α} (z:β) (j:Nat) (ho:o.op=.lookup T y iy false) (hy:AZ.ev ρ y=some (.mp n)) (hiy:AZ.ev ρ iy=some (.fl (kf s)))
 (hj:H[j]? =some (n,.map (Ae kf f m))) (ht:P.underlying T=some (.map kt et)) (hkt:P.underlying kt=some d) (hz:∀ g,∃ zv,((P.info? et).bind (·.zero))=some zv∧V1 g (f z) zv) (hx:x=f ((An m s).getD z)) (hnt:x.notTup=true):
 AG P o ρ H x:=by
 intro F g a w hs h3;have e1:AU g (.mp n) [a.eval y]:=hs.ev hy;have e2:a.eval iy=kf s:=hs.ev hiy;generalize hv:a.eval y=v at e1
 cases e1 with
 | @mp _ p b hn hb=>
   obtain⟨v,k1,_,k2⟩:=Jl (P:=P) hi hk h3 (Below.refl _ _) (s:=s) (z:=z) hn hb hj ht hkt (hz g);refine⟨v,by subst hx;exact k1.toV,fun w' hw=>?_⟩;unfold Oper.quietAt;rw[show (execOp a.eval o).run P w'=.ok (.value v) w' by simp[execOp,ho,hv,e2,k2 w' hw]];exact⟨rfl,rfl⟩
theorem AG.lenMap {T kt et:TypeId} {y:Operand} {n:Nat} {m:List (α×β)} (j:Nat) (ho:o.op=.call {callee:=.builtin .len,args:= #[y],argTypes:= #[T]}) (hy:AZ.ev ρ y=some (.mp n))
 (hj:H[j]? =some (n,.map (Ae kf f m))) (ht:P.underlying T=some (.map kt et)):AG P o ρ H (.fl (.int .i64 (m.length:Int))):=by
 intro F g a w hs h3;have e1:AU g (.mp n) [a.eval y]:=hs.ev hy;generalize hv:a.eval y=v at e1
 cases e1 with
 | @mp _ p b hn hb=>
   obtain⟨arr,clock,e2,e3⟩:=h3.mapAt hn hb hj;have hlt:b<w.heap.size:=(Array.getElem?_eq_some_iff.1 e2).1;have hl:arr.size=m.length:=by
    have:=e3.length;simpa [Ae]using this
   refine⟨.int .i64 (m.length:Int),rfl,fun w' hw=>?_⟩;have e2':w'.heap[b]? =some (.map arr clock):=by rw[hw.block b hlt];exact e2
   unfold Oper.quietAt;rw[show (execOp a.eval o).run P w'=.ok (.value (.int .i64 (m.length:Int))) w' by simp[execOp,ho,hv,resolve,invoke,builtin,Builtin.len_,run_underlying ht,MapKept.run_getObj_map e2',Result.andThen,goInt,hl]];exact⟨rfl,rfl⟩
theorem AO.mapPut (hi:∀ a b,kf a=kf b→a=b) (hk:∀ a,IsKey d (kf a)) {T kt et:TypeId} {y iy vy:Operand} {n:Nat} {m:List (α×β)} {s:α} {c:β} (j:Nat) (hg:o.guard=none) (hd:o.dst=none) (ho:o.op=.mapUpdate T y iy vy)
 (hy:AZ.ev ρ y=some (.mp n)) (hiy:AZ.ev ρ iy=some (.fl (kf s))) (hvy:AZ.ev ρ vy=some (f c)) (hnt:(f c).notTup=true)
 (hj:H[j]? =some (n,.map (Ae kf f m))) (ht:P.underlying T=some (.map kt et)) (hkt:P.underlying kt=some d)
 (h:AO P N ops rest K ρ (H.set j (n,.map (Ae kf f (A1 m s c))))):AO P N ops (o::rest) K ρ H:=
 AO.step0 hg hd fun F g a w hs h3=>by
  have e1:AU g (.mp n) [a.eval y]:=hs.ev hy;have e4:a.eval iy=kf s:=hs.ev hiy;have e5:V1 g (f c) (a.eval vy):=(hs.ev hvy).toV1 hnt;generalize hv:a.eval y=v at e1;generalize hv2:a.eval vy=x at e5
  cases e1 with
  | @mp _ p b hn hb=>
    obtain⟨arr,clock,e2,e3⟩:=h3.mapAt hn hb hj;have hlt:b<w.heap.size:=(Array.getElem?_eq_some_iff.1 e2).1;have fin:∀ arr' clock',(Instr.mapUpdate T (.map (some b)) (kf s) x).run P w=.ok () {w with heap:=w.heap.setIfInBounds b (.map arr' clock')}→Bs (ER g) (Ae kf f (A1 m s c)) arr'.toList→
     ∃ g' w' H',(execOp a.eval o).run P w=.ok .skip w'∧g.le g'∧Ak F g' H' w'∧AO P N ops rest K ρ H':=by
     intro arr' clock' hr ha;refine⟨g,_,_,?_,G.le.refl g,h3.set (w':={w with heap:=w.heap.setIfInBounds b (.map arr' clock')}) (m':=.map (Ae kf f (A1 m s c))) (p':=p) hj hn (G.le.refl g) (fun _ _=>rfl) rfl rfl rfl (by simp) (fun k hk hne=>?_) hn ⟨b,arr',clock',hb,?_,ha⟩ (fun b' hb'=>.inl hb'),h⟩
     ·simp[execOp,ho,hv,hv2,e4,hr]
     ·show (w.heap.setIfInBounds b _)[k]? =_;rw[Array.getElem?_setIfInBounds_ne (fun e=>hne (by rw[hb,e]))]
     ·show (w.heap.setIfInBounds b _)[b]? =_;rw[Array.getElem?_setIfInBounds_self,if_pos hlt]
    rcases GI (f:=f) hi hk g s m arr.toList 0 e3 with⟨k1,k2,k3⟩|⟨q,e,c',k1,k2,k4,k5,k6,k7⟩
    ·refine fin (arr.push ⟨kf s,x,clock⟩) (clock+1) ?_ ?_
     ·simp[Instr.mapUpdate,run_underlying ht,MapKept.run_getObj_map e2,MapKept.run_checkKey hkt (hk s),MapKept.run_findKey hkt k2,MapKept.run_setObj_map _ e2,Result.andThen]
     ·rw[k3];unfold Ae at e3⊢
      rw[List.map_append,Array.toList_push];exact e3.append ⟨rfl,e5⟩
    ·refine fin (arr.modify q fun e=>{e with key:=kf s,val:=x}) clock ?_ ?_
     ·have k4':arr[q]? =some e:=by simpa using k4
      simp[Instr.mapUpdate,run_underlying ht,MapKept.run_getObj_map e2,MapKept.run_checkKey hkt (hk s),MapKept.run_findKey hkt k2,MapKept.run_setObj_map _ e2,Result.andThen,k4',k5,MapKept.run_keyThatStays (hk s)]
     ·have hm:(arr.modify q fun e=>{e with key:=kf s,val:=x}).toList=arr.toList.set q {e with key:=kf s,val:=x}:=by
       rw[Array.toList_modify,Go.ChangeMaps.modify_eq_set _ _ _ _ k4]
      rw[hm];exact k7 c x e5
end
theorem B1 (s:ByteArray):IsKey .string (.string s):=trivial
theorem B2 (a b:ByteArray) (h:Value.string a=Value.string b):a=b:=by cases h;rfl
theorem JQ {k:IntKind} (s:Int):IsKey (.int k) (.int k s):=rfl
theorem Ic {k:IntKind} (a b:Int) (h:Value.int k a=Value.int k b):a=b:=by cases h;rfl
end Go.Avl
namespace Go.Avl
open Go Go.RowKit
set_option linter.unusedVariables false
set_option linter.unusedSectionVars false
section
variable {P:Program} {N:Nat} {ops:Array Oper} {rest:List Oper} {K:AZ→AN→Prop} {ρ:AZ} {H:AN}
theorem AO.freezeFld (i j:Nat) {m o' n off len z:Nat} {els els':List AV} {X X':AV} (hi:H[i]? =some (n,.mem (.ar z els))) (hj:H[j]? =some (m,.mem X)) (hp:FI X o' (.own n off len) (.fz z els') X') (hle:off+len≤els.length) (hx:(els.drop off).take len=els')
 (harz:X'.arz=X.arz) (hcap:X'.capn=X.capn) (hij:i≠j) (h:AO P N ops rest K ρ ((H.set j (m,.mem X')).eraseIdx i)):AO P N ops rest K ρ H:=by
 intro F g a w R h1 h2 h3 h4;obtain⟨g',k1,k2,k3⟩:=h3.freeze hi;refine h F g' a w R (h1.mono k1) h2 ?_ fun g2 ρ' H' a' w' j1 j2 j3 j4 j5 j6=>h4 g2 ρ' H' a' w' (k1.trans j1) j2 j3 j4 j5 j6;refine k2.retell ?_ fun n' m' hm=>?_
 ·rw[Br,Br,A0 (fun x:Nat×EX=>x.1) hj (b:=(m,.mem X')) rfl]
 ·rw[List.mem_eraseIdx_iff_getElem?]at hm;obtain⟨k,hk,e⟩:=hm;by_cases hkj:j=k
  ·subst hkj;rw[List.getElem?_set_self (List.getElem?_eq_some_iff.1 hj).1]at e;cases e;refine⟨.mem X,List.mem_eraseIdx_iff_getElem?.2 ⟨j,hk,hj⟩,fun p s=>s.put hp rfl (fun v hv=>?_) harz hcap⟩;rw[←hx];exact k3 _ _ _ hle hv
  ·rw[List.getElem?_set_ne hkj]at e;exact⟨m',List.mem_eraseIdx_iff_getElem?.2 ⟨k,hk,e⟩,fun _ s=>s⟩
theorem AO.nilOwnFld (j z:Nat) {m o':Nat} {X:AV} (X':Nat→AV) (hj:H[j]? =some (m,.mem X)) (hp:∀ n,FI X o' (.fl (.slice none 0 0)) (.own n 0 0) (X' n)) (harz:∀ n,(X' n).arz=X.arz) (hcap:∀ n,(X' n).capn=X.capn)
 (h:∀ n,AO P N ops rest K ρ ((n,.mem (.ar z []))::H.set j (m,.mem (X' n)))):AO P N ops rest K ρ H:=by
 intro F g a w R h1 h2 h3 h4;have hs:=DQ h3 z;refine h g.nm.length F {g with nm:=g.nm++[⟨none,0,0,z⟩]} a w R (h1.mono (G.le.push g _)) h2 ?_ fun g2 ρ' H' a' w' j1 j2 j3 j4 j5 j6=>h4 g2 ρ' H' a' w' ((G.le.push g _).trans j1) j2 j3 j4 j5 j6;refine hs.retell (by simp[A0 _ hj]) fun n' m' hm=>?_;rcases List.mem_cons.1 hm with e|hm
 ·cases e;exact⟨_,List.mem_cons_self,fun _ s=>s⟩
 ·rcases List.mem_or_eq_of_mem_set hm with e|e
  ·exact⟨m',List.mem_cons_of_mem _ e,fun _ s=>s⟩
  ·cases e;refine⟨.mem X,List.mem_cons_of_mem _ (List.mem_of_getElem? hj),fun p s=>s.put (hp _) rfl (fun v hv=>?_) (harz _) (hcap _)⟩;cases hv;exact Gt g z
end
end Go.Avl
namespace Go.Avl
set_option linter.all false
section
variable {α β:Type} [DecidableEq α]
theorem Dz (m:List (α×β)) (s:α) (v:β) (t:α):An (A1 m s v) t=if s=t then some v else An m t:=by
 induction m with
 | nil=>simp only[A1,An]
 | cons e m ih=>
   simp only[A1];by_cases q:e.1=s
   ·rw[if_pos q,An];by_cases r:s=t
    ·rw[if_pos r,if_pos r]
    ·rw[if_neg r,if_neg r,An,if_neg (fun h=>r (q.symm.trans h))]
   ·rw[if_neg q,An,ih];by_cases r:e.1=t
    ·rw[if_pos r,An,if_pos r,if_neg (fun h=>q (r.trans h.symm))]
    ·rw[if_neg r];by_cases u:s=t
     ·rw[if_pos u,if_pos u]
     ·rw[if_neg u,if_neg u,An,if_neg r]
theorem Ms {m:List (α×β)} {s:α} {v:β} (h:An m s=none):A1 m s v=m++[(s,v)]:=by
 induction m with
 | nil=>rfl
 | cons e m ih=>
   simp only[An]at h;by_cases q:e.1=s
   ·rw[if_pos q]at h;cases h
   ·rw[if_neg q]at h;rw[A1,if_neg q,ih h];rfl
end
end Go.Avl
namespace Go.Avl
open Go Go.RowKit
set_option linter.all false
def Cz (σ:Nat→Nat) (i n:Nat):Nat→Nat:=fun j=>if j=i then n else σ j
def A3 (L:Nat→Bool) (i:Nat):Nat→Bool:=fun j=>if j=i then true else L j
def HT (listed:Array Bool):Nat→Bool:=fun j=>listed.getD j true
theorem Pm {listed:Array Bool} {i:Nat} (hi:i<listed.size):HT (listed.setIfInBounds i true)=A3 (HT listed) i:=by
 funext j
 show (listed.setIfInBounds i true).getD j true=if j=i then true else listed.getD j true
 rw[Array.getD_eq_getD_getElem?,Array.getD_eq_getD_getElem?,Array.getElem?_setIfInBounds];by_cases e:i=j
 ·subst e;rw[if_pos rfl,if_pos hi,if_pos rfl];rfl
 ·rw[if_neg e,if_neg (fun h=>e h.symm)]
def SQ (l:List Oper):Bool:=
 decide ((l.filterMap (·.dst)).Nodup)&&
 (List.range l.length).all fun i=>((l[i]?).map fun o=>o.after.toList.all fun e=> !(Region.binds .any e)||decide (e.on<i)).getD true
structure Lu (l:List Oper):Prop where
 nodup:∀ (i j:Nat) (o p:Oper) (d:Nat),l[i]? =some o→l[j]? =some p→o.dst=some d→p.dst=some d→i=j
 back:∀ (i:Nat) (o:Oper),l[i]? =some o→∀ e∈o.after.toList,Region.binds .any e=true→e.on<i
theorem Cg {α β:Type} (f:α→Option β):∀ {l:List α},(l.filterMap f).Nodup→∀ (i j:Nat) (a b:α) (d:β),l[i]? =some a→l[j]? =some b→f a=some d→f b=some d→i=j
 | [],_,i,j,a,b,d,h,_,_,_=>by simp at h
 | x::l,hn,i,j,a,b,d,h1,h2,e1,e2=>by
   have hmem:∀ (k:Nat) (y:α),l[k]? =some y→f y=some d→d∈l.filterMap f:=fun k y hk hy=>List.mem_filterMap.2 ⟨y,List.mem_of_getElem? hk,hy⟩
   cases hx:f x with
   | none=>
     rw[List.filterMap_cons_none hx]at hn
     cases i with
     | zero=>simp at h1;subst h1;rw[hx]at e1;cases e1
     | succ i=>
       cases j with
       | zero=>simp at h2;subst h2;rw[hx]at e2;cases e2
       | succ j=>simp at h1 h2;rw[Cg f hn i j a b d h1 h2 e1 e2]
   | some z=>
     rw[List.filterMap_cons_some hx]at hn;obtain⟨n1,n2⟩:=List.nodup_cons.1 hn
     cases i with
     | zero=>
       simp at h1;subst h1;rw[hx]at e1;cases e1
       cases j with
       | zero=>rfl
       | succ j=>simp at h2;exact absurd (hmem j b h2 e2) n1
     | succ i=>
       simp at h1
       cases j with
       | zero=>
         simp at h2;subst h2;rw[hx]at e2;cases e2
         exact absurd (hmem i a h1 e1) n1
       | succ j=>simp at h2;rw[Cg f n2 i j a b d h1 h2 e1 e2]
theorem Px {l:List Oper} (h:SQ l=true):Lu l:=by
 simp only[SQ,Bool.and_eq_true,List.all_eq_true,decide_eq_true_eq]at h;obtain⟨h2,h4⟩:=h;refine⟨fun i j o p d hi hj e1 e2=>Cg (·.dst) h2 i j o p d hi hj e1 e2,fun i o ho e he=>?_⟩;have hlt:=(List.getElem?_eq_some_iff.1 ho).1;have:=h4 i (List.mem_range.2 hlt);rw[ho]at this;simp only[Option.map_some,Option.getD_some,List.all_eq_true]at this;exact fun hb=>by have:=this e he;rw[hb]at this;simpa using this
def R8 (l:List Oper) (L:Nat→Bool):Prop:=∀ (j:Nat) p,l[j]? =some p→L j=true→∀ e∈p.after.toList,Region.binds .any e=true→L e.on=true
def LX (P:Program) (N:Nat) (ops:Array Oper) (l:List Oper) (xs:(Nat→Nat)→List AV) (Hs:(Nat→Bool)→(Nat→Nat)→AN) (ρ0:AZ) (i:Nat) (o:Oper):Prop:=
 ∀ (L:Nat→Bool) (σ:Nat→Nat),R8 l L→L i=false→(∀ e∈o.after.toList,Region.binds .any e=true→L e.on=true)→
  AO P N ops [o] (fun ρ' H'=>∃ σ',(∀ j,L j=true→(xs σ')[j]? =(xs σ)[j]?)∧(∀ d,o.dst=some d→∃ x,(xs σ')[i]? =some x∧ρ'.lookup d=some x)∧BS (Hs (A3 L i) σ') H') (Bk (l.zip (xs σ)) o++FD (l.zip (xs σ)) ρ0 i) (Hs L σ)
def FL (P:Program) (N:Nat) (ops:Array Oper) (l:List Oper) (xs:(Nat→Nat)→List AV) (Hs:(Nat→Bool)→(Nat→Nat)→AN) (ρ0:AZ):Nat→List Oper→Prop
 | _,[]=>True
 | k,o::r=>LX P N ops l xs Hs ρ0 k o∧FL P N ops l xs Hs ρ0 (k+1) r
theorem FL.get {P:Program} {N:Nat} {ops:Array Oper} {l:List Oper} {xs:(Nat→Nat)→List AV} {Hs:(Nat→Bool)→(Nat→Nat)→AN} {ρ0:AZ}:∀ {r:List Oper} {k:Nat},FL P N ops l xs Hs ρ0 k r→∀ {i:Nat} {o},r[i]? =some o→LX P N ops l xs Hs ρ0 (k+i) o
 | [],_,_,i,p,h=>by simp at h
 | q::r,_,hh,0,p,h=>by simp at h;subst h;exact hh.1
 | q::r,k,hh,i+1,p,h=>by simp at h;have:=FL.get hh.2 h;rwa [show k+1+i=k+(i+1)by omega]at this
structure HK (F:Fr) (g:G) (ρ0:AZ) (N:Nat) (ds:List Deferred) (l:List Oper) (xs:(Nat→Nat)→List AV) (Hs:(Nat→Bool)→(Nat→Nat)→AN) (listed:Array Bool) (a:Act) (w:World):Prop where
 inv:∃ g' σ,g.le g'∧(∀ t x,ρ0.lookup t=some x→(∀ (j:Nat) p,l[j]? =some p→HT listed j=true→p.dst≠some t)→V g' x (a.tmps.getD t undef))∧(∀ (j:Nat) p d x,l[j]? =some p→HT listed j=true→p.dst=some d→(xs σ)[j]? =some x→V g' x (a.tmps.getD d undef))∧Ak F g' (Hs (HT listed) σ) w
 size:a.tmps.size=N
 defers:a.defers=ds
 closed:R8 l (HT listed)
section
variable {P:Program} {N:Nat} {F:Fr} {g:G} {ρ0:AZ} {ds:List Deferred} {l:List Oper} {xs:(Nat→Nat)→List AV} {Hs:(Nat→Bool)→(Nat→Nat)→AN} {R:Exit→Act→World→Prop}
theorem O2 (hlen:∀ σ,(xs σ).length=l.length) (hB:Lu l) (hS:FL P N l.toArray l xs Hs ρ0 0 l) {listed:Array Bool} (hsz:listed.size=l.length) {a:Act} {w:World} (inv:HK F g ρ0 N ds l xs Hs listed a w) {i:Nat} (hi:i∈Region.ready .any l.toArray listed):
 wpOp P l.toArray R i (fun a' w'=>HK F g ρ0 N ds l xs Hs (listed.setIfInBounds i true) a' w') a w:=by
 obtain⟨k1,k2,o,ho,k3'⟩:=BW hi;have hol:l[i]? =some o:=by simpa using ho
 have hil:i<l.length:=(List.getElem?_eq_some_iff.1 hol).1;have hit:i<listed.size:=by omega
 have k3:∀ e∈o.after.toList,Region.binds .any e=true→HT listed e.on=true:=fun e he hb=>by
  have:=k3' e he hb;have hlt:=hB.back i o hol e he hb;unfold HT;rw[Array.getD_eq_getD_getElem?,Array.getElem?_eq_getElem (by omega)]at this⊢
  exact this
 obtain⟨g',σ,q1,q2,q3,q4⟩:=inv.inv;have hao:=(hS.get hol);rw[Nat.zero_add]at hao;have hao:=hao (HT listed) σ inv.closed k2 k3;have zg:∀ (j:Nat) p,(l.zip (xs σ))[j]? =some p→l[j]? =some p.1∧(xs σ)[j]? =some p.2:=fun j p h=>List.getElem?_zip_eq_some.1 h;have hes:A2 g' (Bk (l.zip (xs σ)) o++FD (l.zip (xs σ)) ρ0 i) a:=by
  intro t y hy;rw[A4]at hy
  cases hn:(Bk (l.zip (xs σ)) o).lookup t with
  | none=>
    rw[hn]at hy;obtain⟨u1,u2⟩:=Bo (f:=LU (l.zip (xs σ)) i) (show (FD (l.zip (xs σ)) ρ0 i).lookup t=some y by simpa using hy);refine q2 t y u2 fun j p hp hl hdt=>?_;have hj:j<l.length:=(List.getElem?_eq_some_iff.1 hp).1;have hz:(l.zip (xs σ))[j]? =some (p,(xs σ)[j]'(by rw[hlen];exact hj)):=by
     rw[List.getElem?_zip_eq_some];exact⟨hp,List.getElem?_eq_getElem (by rw[hlen];exact hj)⟩
    have:=List.all_eq_true.1 u1 _ (List.mem_of_getElem? hz);simp only[Bool.or_eq_true,bne_iff_ne,ne_eq,hdt,not_true,false_or,List.any_eq_true,Bool.and_eq_true,beq_iff_eq]at this;obtain⟨e,he,hb,hon⟩:=this;have hc:=inv.closed j p hp hl e he hb;rw[hon]at hc;have k2':HT listed i=false:=k2;rw[k2']at hc;cases hc
  | some z=>
    rw[hn]at hy;cases hy
    have hm:=C5 hn;simp only[Bk,List.mem_filterMap]at hm;obtain⟨e,he,hf⟩:=hm;by_cases hb:Region.binds .any e=true
    ·rw[if_pos hb]at hf
     cases hp:(l.zip (xs σ))[e.on]? with
     | none=>rw[hp]at hf;cases hf
     | some p=>
       rw[hp]at hf;simp only[Option.bind_some,Option.map_eq_some_iff]at hf;obtain⟨d',hd',he'⟩:=hf;cases he';obtain⟨z1,z2⟩:=zg _ _ hp;exact q3 e.on p.1 _ _ z1 (k3 e he hb) hd' z2
    ·rw[if_neg hb]at hf;cases hf
 let KK:AZ→AN→Prop:=fun ρ' H'=>∃ σ',(∀ j,HT listed j=true→(xs σ')[j]? =(xs σ)[j]?)∧(∀ d,o.dst=some d→∃ x,(xs σ')[i]? =some x∧ρ'.lookup d=some x)∧BS (Hs (A3 (HT listed) i) σ') H'
 have wl:=hao F g' a w (fun e a' w'=>match e with
  | .normal=>∃ g'' ρ' H',g'.le g''∧A2 g'' ρ' a'∧a'.tmps.size=N∧a'.defers=a.defers∧Ak F g'' H' w'∧KK ρ' H'
  | e=>R e a' w') hes inv.size q4 (fun g'' ρ' H' a' w' j1 j2 j3 j4 j5 j6=>⟨g'',ρ',H',j1,j2,j3,j4,j5,j6⟩)
 have fin:∀ a' w',(∃ g'' ρ' H',g'.le g''∧A2 g'' ρ' a'∧a'.tmps.size=N∧a'.defers=a.defers∧Ak F g'' H' w'∧KK ρ' H')→(∃ v,a'.tmps=(a.put o.dst v).tmps)→
  HK F g ρ0 N ds l xs Hs (listed.setIfInBounds i true) a' w':=by
  rintro a' w' ⟨g'',ρ',H',j1,j2,j3,j4,j5,σ',s1,s2,s3⟩ ⟨v,hv⟩;have old:∀ t,o.dst≠some t→a'.tmps.getD t undef=a.tmps.getD t undef:=fun t ht=>by
   rw[hv]
   cases hd:o.dst with
   | none=>rfl
   | some d=>exact G4 (fun e=>ht (by rw[hd,e]))
  have hL:=Pm hit;have stays:∀ j,HT listed j=true→HT (listed.setIfInBounds i true) j=true:=fun j hj=>by
   rw[hL];unfold A3;split
   ·rfl
   ·exact hj
  have back:∀ j,HT (listed.setIfInBounds i true) j=true→j=i∨HT listed j=true:=fun j hj=>by
   rw[hL]at hj;unfold A3 at hj;by_cases e:j=i
   ·exact .inl e
   ·rw[if_neg e]at hj;exact .inr hj
  have now:HT (listed.setIfInBounds i true) i=true:=by rw[hL];unfold A3;rw[if_pos rfl]
  refine⟨⟨g'',σ',q1.trans j1,?_,?_,by rw[hL];exact j5.sub s3⟩,j3,j4.trans inv.defers,fun j p hp hl e he hb=>?_⟩
  ·intro t y hy hfree;have ht:o.dst≠some t:=hfree i o hol now;rw[old t ht];exact(q2 t y hy fun j p hp hl=>hfree j p hp (stays j hl)).mono j1
  ·intro j p e x hp hl he hx;by_cases hji:j=i
   ·subst hji;have hpo:p=o:=Option.some.inj (hp.symm.trans hol);subst hpo;obtain⟨x',hx',hlk⟩:=s2 e he;have:x'=x:=Option.some.inj (hx'.symm.trans hx);subst this;exact j2 e x' hlk
   ·have hlj:=(back j hl).resolve_left hji;have hne:o.dst≠some e:=fun h=>hji (hB.nodup j i p o e hp hol he h);rw[old e hne];exact(q3 j p e x hp hlj he ((s1 j hlj).symm.trans hx)).mono j1
  ·rcases back j hl with h'|h'
   ·subst h';have hpo:p=o:=Option.some.inj (hp.symm.trans hol);subst hpo;exact stays _ (k3 e he hb)
   ·exact stays _ (inv.closed j p hp h' e he hb)
 unfold wpOp;rw[ho];simp only[wpList]at wl;show (if Region.wanted o (yielded l.toArray a.tmps)=true then _ else _);by_cases hw:Region.wanted o (yielded l.toArray a.tmps)=true
 ·rw[if_pos hw]at wl⊢
  refine JI (Q:=fun e a' w'=>match e with
   | .normal=>∃ g'' ρ' H',g'.le g''∧A2 g'' ρ' a'∧a'.tmps.size=N∧a'.defers=a.defers∧Ak F g'' H' w'∧KK ρ' H'
   | e=>R e a' w') (fun e a w he h=>by cases e<;>first|exact absurd rfl he|exact h) (fun a' w' h=>fin a' w' h.1 h.2) (wl.imp K4 id)
 ·rw[if_neg hw]at wl⊢
  refine fin _ _ wl ⟨undef,?_⟩;cases o.dst<;>rfl
theorem HI {listed:Array Bool} (hB:Lu l) (hsz:listed.size=l.length) (h:Region.ready .any l.toArray listed=[]):HT listed=fun _=>true:=by
 have key:∀ i,i<l.length→listed.getD i true=true:=by
  intro i
  induction i using Nat.strongRecOn with
  | _ i ih=>
    intro hi
    cases hc:listed.getD i true with
    | true=>rfl
    | false=>
      exfalso
      have hr:i∈Region.ready .any l.toArray listed:=Fu (o:=l[i]) (by simp[hi]) hc (fun e he hbd=>by
       have hlt:=hB.back i l[i] (by simp[hi]) e he hbd;have:=ih e.on hlt (by omega);rw[Array.getD_eq_getD_getElem?,Array.getElem?_eq_getElem (by omega)]at this⊢
       exact this)
      rw[h]at hr;cases hr
 funext j
 by_cases hj:j<l.length
 ·exact key j hj
 ·unfold HT;rw[Array.getD_eq_getD_getElem?,Array.getElem?_eq_none (by omega)];rfl
theorem NZ (hlen:∀ σ,(xs σ).length=l.length) (hB:Lu l) (hS:FL P N l.toArray l xs Hs ρ0 0 l)
 (hk:∀ listed a' w',HT listed=(fun _=>true)→HK F g ρ0 N ds l xs Hs listed a' w'→R .normal a' w'):∀ (fuel:Nat) (listed:Array Bool) (a:Act) (w:World),listed.size=l.length→listed.toList.count false≤fuel→HK F g ρ0 N ds l xs Hs listed a w→
 wpAny P .any l.toArray R fuel listed a w:=by
 intro fuel
 induction fuel with
 | zero=>
   intro listed a w hsz hc inv;have hr:Region.ready .any l.toArray listed=[]:=by
    cases e:Region.ready .any l.toArray listed with
    | nil=>rfl
    | cons i r=>
      exfalso;obtain⟨k1,k2,_⟩:=BW (i:=i) (by rw[e];simp);have hi:i<listed.size:=by simpa [hsz]using k1
      rw[Array.getD_eq_getD_getElem?,Array.getElem?_eq_getElem hi]at k2;have:false∈listed.toList:=by rw[←show listed[i]=false from k2];simp
      have:=List.count_pos_iff.2 this;omega
   exact⟨hr,hk listed a w (HI hB hsz hr) inv⟩
 | succ fuel ih=>
   intro listed a w hsz hc inv;refine⟨fun hr=>hk listed a w (HI hB hsz hr) inv,fun i hi=>wpOp_mono (fun a' w' h=>ih _ a' w' (by simpa using hsz) ?_ h) (O2 hlen hB hS hsz inv hi)⟩;obtain⟨k1,k2,_⟩:=BW hi;have hi':i<listed.size:=by simpa [hsz]using k1
   rw[Array.getD_eq_getD_getElem?,Array.getElem?_eq_getElem hi']at k2;have hf:listed.toList[i]'(by simpa using hi')=false:=by simpa using k2
   have e2:(listed.toList.set i true).count false=listed.toList.count false-1+0:=by
    rw[List.count_set (by simpa using hi'),hf];rfl
   have:false∈listed.toList:=by rw[←hf];exact List.getElem_mem _
   have:=List.count_pos_iff.2 this;rw[Array.toList_setIfInBounds,e2];omega
end
theorem Te {P:Program} {ops:Array Oper} {R:Exit→Act→World→Prop} {a:Act} {w:World} (h:wpList P ops R [] a w):R .normal a w:=by simpa [wpList]using h
theorem AO.heq {P:Program} {N:Nat} {ops:Array Oper} {rest:List Oper} {K:AZ→AN→Prop} {ρ:AZ} {H:AN} (H':AN) (e:H=H') (h:AO P N ops rest K ρ H'):AO P N ops rest K ρ H:=by rw[e];exact h
theorem BS.of_eq {A B C:AN} (e:A=B) (h:BS B C):BS A C:=by rw[e];exact h
theorem AW.regEff {P:Program} {N:Nat} {ρ:AZ} {H:AN} {Q:Exit→AZ→AN→Prop} {id:Nat} {l:List Oper} (hm:P.follows .mixedOrders=true) (hB:SQ l=true) (xs:(Nat→Nat)→List AV) (Hs:(Nat→Bool)→(Nat→Nat)→AN) (ρ0:AZ) (hs:Cs ρ0 ρ) (hlen:∀ σ,(xs σ).length=l.length)
 (h0:∀ σ,BS (Hs (fun j=> !decide (j<l.length)) σ) H) (h:FL P N l.toArray l xs Hs ρ0 0 l) (ρ':(Nat→Nat)→AZ) (H':(Nat→Nat)→AN) (he:∀ σ,Cs (ρ' σ) (FS (l.zip (xs σ))++ρ0)) (hH:∀ σ,BS (H' σ) (Hs (fun _=>true) σ)) (hk:∀ σ,AO P N #[] [] (Q .normal) (ρ' σ) (H' σ)):AW P N (.region id l.toArray true) Q ρ H:=by
 intro F g a w R h1 h2 h3 h4;refine wp_region_any hm ?_;have hB':=Px hB;have h3':Ak F g H {w with drawn:=w.drawn+1}:=h3.of_below (Below.refl _ _).drew;have e0:HT (Array.replicate l.length false)=fun j=> !decide (j<l.length):=by
  funext j
  unfold HT;rw[Array.getD_eq_getD_getElem?];by_cases hj:j<l.length
  ·simp[hj]
  ·simp[hj]
 have no:∀ (j:Nat) p,l[j]? =some p→HT (Array.replicate l.length false) j=true→False:=fun j p hp hl=>by
  rw[e0]at hl;have:=(List.getElem?_eq_some_iff.1 hp).1;simp[this]at hl
 refine NZ (F:=F) (g:=g) (ds:=a.defers) hlen hB' h (fun listed a' w' hall inv=>?_) _ _ a _ (by simp) (by simp) ⟨⟨g,fun _=>0,.refl g,fun t x hx _=>hs.sat h1 t x hx,fun j p d x hp hl _ _=>(no j p hp hl).elim,by rw[show (Array.replicate l.toArray.size false)=Array.replicate l.length false from rfl,e0];exact h3'.sub (h0 _)⟩,h2,rfl,fun j p hp hl=>(no j p hp hl).elim⟩;obtain⟨g',σ,q1,q2,q3,q4⟩:=inv.inv;rw[hall]at q2 q3 q4;refine Te (hk σ F g' a' w' R ((he σ).sat ?_) inv.size (q4.sub (hH σ)) fun g2 ρ2 H2 a2 w2 j1 j2 j3 j4 j5 j6=>h4 _ g2 ρ2 H2 a2 w2 (q1.trans j1) j2 j3 (j4.trans inv.defers) j5 j6);intro t y hy;rw[A4]at hy;have zg:∀ (j:Nat) p,(l.zip (xs σ))[j]? =some p→l[j]? =some p.1∧(xs σ)[j]? =some p.2:=fun j p h=>List.getElem?_zip_eq_some.1 h
 cases hn:(FS (l.zip (xs σ))).lookup t with
 | none=>
   rw[hn]at hy;refine q2 t y (by simpa using hy) fun j p hp _ hd=>?_;have hj:j<l.length:=(List.getElem?_eq_some_iff.1 hp).1;have hz:(l.zip (xs σ))[j]? =some (p,(xs σ)[j]'(by rw[hlen];exact hj)):=by
    rw[List.getElem?_zip_eq_some];exact⟨hp,List.getElem?_eq_getElem (by rw[hlen];exact hj)⟩
   have:(t,(xs σ)[j]'(by rw[hlen];exact hj))∈FS (l.zip (xs σ)):=by
    simp only[FS,List.mem_filterMap,Option.map_eq_some_iff];exact⟨_,List.mem_of_getElem? hz,t,hd,rfl⟩
   exact Bx hn this
 | some z=>
   rw[hn]at hy;cases hy
   obtain⟨j,p,hp,hd,rfl⟩:=Ha hn;obtain⟨z1,z2⟩:=zg _ _ hp;exact q3 j p.1 t p.2 z1 rfl hd z2
theorem LX.calm {P:Program} {N:Nat} {ops:Array Oper} {l:List Oper} {xs:(Nat→Nat)→List AV} {Hs:(Nat→Bool)→(Nat→Nat)→AN} {ρ0:AZ} {i:Nat} {o:Oper} (hH:∀ L σ,Hs (A3 L i) σ=Hs L σ)
 (h:∀ (L:Nat→Bool) (σ:Nat→Nat),R8 l L→L i=false→(∀ e∈o.after.toList,Region.binds .any e=true→L e.on=true)→
   AO P N ops [o] (fun ρ' H'=>(∃ d x,o.dst=some d∧(xs σ)[i]? =some x∧ρ'.lookup d=some x)∧BS (Hs L σ) H') (Bk (l.zip (xs σ)) o++FD (l.zip (xs σ)) ρ0 i) (Hs L σ)):LX P N ops l xs Hs ρ0 i o:=
 fun L σ k1 k2 k3=>AO.mono (h L σ k1 k2 k3) fun ρ' H' hk=>by
  obtain⟨⟨d,x,e1,e2,e3⟩,e4⟩:=hk;exact⟨σ,fun _ _=>rfl,fun d' hd'=>⟨x,e2,by rw[←Option.some.inj (e1.symm.trans hd')];exact e3⟩,by rw[hH];exact e4⟩
def UA (p:Oper) (i:Nat):Bool:=p.after.toList.any fun e=>Region.binds .any e&&e.on==i
theorem R8.pos {l:List Oper} {L:Nat→Bool} (h:R8 l L) {i j:Nat} {p:Oper} (hp:l[j]? =some p) (hb:UA p i=true) (hj:L j=true):L i=true:=by
 simp only[UA,List.any_eq_true,Bool.and_eq_true,beq_iff_eq]at hb;obtain⟨e,he,h1,h2⟩:=hb;rw[←h2];exact h j p hp hj e he h1
theorem R8.neg {l:List Oper} {L:Nat→Bool} (h:R8 l L) {i j:Nat} {p:Oper} (hp:l[j]? =some p) (hb:UA p i=true) (hi:L i=false):L j=false:=by
 cases q:L j with
 | false=>rfl
 | true=>rw[h.pos hp hb q]at hi;cases hi
theorem BJ {p:Oper} {L:Nat→Bool} (h:∀ e∈p.after.toList,Region.binds .any e=true→L e.on=true) {i:Nat} (hb:UA p i=true):L i=true:=by
 simp only[UA,List.any_eq_true,Bool.and_eq_true,beq_iff_eq]at hb;obtain⟨e,he,h1,h2⟩:=hb;rw[←h2];exact h e he h1
section
variable {P:Program} {N:Nat} {ops:Array Oper} {o:Oper} {rest:List Oper} {K:AZ→AN→Prop} {ρ:AZ} {H:AN}
theorem AO.unguard (j:Nat) (b:Bool) (e:Nat) (hg:o.guard=some (j,b)) (he:(ops[j]?).bind (·.dst)=some e) (hb:ρ.lookup e=some (.fl (.bool b)))
 (h:AO P N ops ({o with guard:=none}::rest) K ρ H):AO P N ops (o::rest) K ρ H:=by
 intro F g a w Q h1 h2 h3 h4;have:=h F g a w Q h1 h2 h3 h4;unfold wpList at this⊢
 rw[if_pos (Bf (o:={o with guard:=none}) rfl _)]at this;rw[if_pos (by rw[B3 hg he hb h1];simp)];exact this
end
end Go.Avl
namespace Go.Avl
end Go.Avl
namespace Go.Avl
open Go Go.RowKit
end Go.Avl
namespace Go.Avl
open Go Go.RowKit
set_option linter.unusedVariables false
set_option linter.unusedSimpArgs false
section
variable {P:Program} {N:Nat} {Q:Exit→AZ→AN→Prop} {ρ ρ':AZ} {H H':AN}
end
section
variable {P:Program} {N:Nat} {ops:Array Oper} {o:Oper} {rest:List Oper} {K:AZ→AN→Prop} {ρ:AZ} {H:AN}
theorem AG.preO {T E:TypeId} {y:Operand} {hi:Option Operand} {z n len:Nat} {els:List AV} {h:Int} (j:Nat) (ho:o.op=.slice T y none hi none) (hy:AZ.ev ρ y=some (.own n 0 len)) (hh:EF ρ len hi=some h)
 (hH:H[j]? =some (n,.mem (.ar z els))) (hb:0≤h∧h≤(len:Int)) (ht:P.underlying T=some (.slice E)) (hz:AX P E=some z):AG P o ρ H (.own n 0 h.toNat):=by
 have:=AG.sliceOwn (l:=0) (h:=h) j ho hy rfl hh hH (by omega) hb.1 hb.2 ht hz;simpa using this
theorem AG.sufO {T E:TypeId} {y:Operand} {lo:Option Operand} {z n len:Nat} {els:List AV} {l:Int} (j:Nat) (ho:o.op=.slice T y lo none none) (hy:AZ.ev ρ y=some (.own n 0 len)) (hl:FX ρ lo=some l)
 (hH:H[j]? =some (n,.mem (.ar z els))) (hb:0≤l∧l≤(len:Int)) (ht:P.underlying T=some (.slice E)) (hz:AX P E=some z):AG P o ρ H (.own n l.toNat (len-l.toNat)):=by
 have:=AG.sliceOwn (l:=l) (h:=len) j ho hy hl rfl hH hb.1 hb.2 (Int.le_refl _) ht hz;simpa using this
theorem AG.idxSufO {T E:TypeId} {y iy:Operand} {z n len:Nat} {els:List AV} {k:IntKind} {a i:Int} (j:Nat) (ho:o.op=.indexAddr T y iy) (hy:AZ.ev ρ y=some (.own n a.toNat len)) (hiy:AZ.ev ρ iy=some (.fl (.int k i)))
 (hH:H[j]? =some (n,.mem (.ar z els))) (ha:0≤a) (hb:0≤i∧i<(len:Int)) (ht:P.underlying T=some (.slice E)) (hz:AX P E=some z):AG P o ρ H (.ptr n ((a+i).toNat*z+0)):=by
 have:=AG.idxOwn (H:=H) j ho hy hiy hH hb.1 hb.2 ht hz;rw[show (a+i).toNat=a.toNat+i.toNat by omega];simpa using this
theorem AO.appendCut {α:Type} {f:α→AV} {l m:List α} {T U E E':TypeId} {s y:Operand} {z by' n c:Nat} {xv:AV} {zl:List Value} (i:Nat) (d:Nat) (hd:o.dst=some d) (hN:d<N) (hg:o.guard=none)
 (ho:o.op=.call {callee:=.builtin .append,args:= #[s,y],argTypes:= #[T,U]}) (hs:AZ.ev ρ s=some (.own n 0 c)) (hc:c≤l.length) (hy:AZ.ev ρ y=some xv) (hi:H[i]? =some (n,.mem (.ar z (l.map f)))) (hsrc:EJ H z xv (m.map f))
 (ht:P.underlying T=some (.slice E)) (hu:P.underlying U=some (.slice E')) (hz:AX P E=some z) (hby:BB P E=some by') (hzero:Ah P E=some zl) (hzl:zl.length=z)
 (hbound:(l.take c++m).length*by'≤140737488355328) (hpos:1≤by')
 (h:∀ n',AO P N ops rest K ((d,.own n' 0 (l.take c++m).length)::ρ) (H.set i (n',.mem (.ar z ((l.take c++m).map f))))):AO P N ops (o::rest) K ρ H:=by
 have hl:(l.take c++m).length=c+m.length:=by simp[Nat.min_eq_left hc]
 refine AO.append (len:=c) i _ _ hg d hd hN ho hs hy hi hsrc (by simpa using hc) ht hu hz hby hzero hzl (by rw[hl]at hbound;simpa using hbound) ?_ ?_ ?_ h
 ·have:=Nat.le_mul_of_pos_right (l.take c++m).length (show 0<by' by omega);rw[hl]at this hbound;simp only[List.length_map];omega
 ·rw[List.drop_zero,List.map_append,List.map_take]
 ·rw[hl,List.length_map]
theorem AU.ar_take {g:G} {z:Nat}:∀ (k:Nat) {els:List AV} {l:List Value},AU g (.ar z els) l→AU g (.ar z (els.take k)) (l.take (k*z))
 | 0,els,l,s=>by simpa using AU.arNil
 | k+1,els,l,s=>by
   cases s with
   | arNil=>simpa using AU.arNil
   | @arCons _ c cs l0 r a b d=>
     have ih:=AU.ar_take k d;rw[List.take_succ_cons,show (k+1)*z=l0.length+k*z by rw[b,Nat.add_mul];omega,List.take_length_add_append];exact .arCons a b ih
theorem AU.ar_drop {g:G} {z:Nat}:∀ (k:Nat) {els:List AV} {l:List Value},AU g (.ar z els) l→AU g (.ar z (els.drop k)) (l.drop (k*z))
 | 0,els,l,s=>by simpa using s
 | k+1,els,l,s=>by
   cases s with
   | arNil=>simpa using AU.arNil
   | @arCons _ c cs l0 r a b d=>
     have ih:=AU.ar_drop k d;rw[List.drop_succ_cons,show (k+1)*z=l0.length+k*z by rw[b,Nat.add_mul];omega,List.drop_length_add_append];exact ih
theorem RV {F:Fr} {g:G} {H:AN} {w:World} {z:Nat} {els:List AV} (h3:Ak F g H w) {v:Value} (hv:AU g (.fz z els) [v]) (k:Nat) (hk:k≤els.length):
 ∃ (pre:List Value) (A:Option Addr) (cap:Nat),v=.slice A els.length cap∧AU g (.ar z (els.take k)) pre∧(Builtin.firstCells z k v).run P w=.ok pre.toArray w:=by
 cases hv with
 | @fz _ _ l b o cap sl hro hc=>
   have hcell:∀ j u,(l.take (k*z))[j]? =some u→w.cell? ((⟨b,o,none⟩:Addr).add j)=some u:=fun j u hj=>by
    rw[Addr.add_lit];have hj':l[j]? =some u:=by
     rw[List.getElem?_take]at hj;split at hj
     ·exact hj
     ·cases hj
    exact h3.ro _ _ _ (hro j u hj')
   have hl:(l.take (k*z)).length=k*z:=by rw[List.length_take,sl.ar_length];exact Nat.min_eq_left (Nat.mul_le_mul_right _ hk)
   exact⟨_,_,cap,rfl,sl.ar_take k,run_firstCells_some (P:=P) w z k ⟨b,o,none⟩ els.length cap _ hl hcell⟩
 | @fz0 _ ad cap=>
   obtain rfl:k=0:=by simpa using hk
   refine⟨[],ad,cap,rfl,by simpa using AU.arNil,?_⟩;cases ad<;>simp[Builtin.firstCells,loadCells,loadCellsFrom]
def Cn {α:Type} (l m:List α):List α:=m.take l.length++l.drop m.length
theorem MW {α:Type} (l m:List α):Cn l m=m.take (min m.length l.length)++l.drop (min m.length l.length):=by
 unfold Cn;rcases Nat.le_total m.length l.length with h|h
 ·rw[Nat.min_eq_left h,List.take_of_length_le h,List.take_of_length_le (Nat.le_refl _)]
 ·rw[Nat.min_eq_right h,List.drop_of_length_le h,List.drop_of_length_le (Nat.le_refl _)]
theorem Ep {α:Type} (l m:List α):(Cn l m).length=l.length:=by unfold Cn;simp;omega
theorem H4 {α:Type} {g:G} {n:Nat} {l m:List α} {v:Value} (h:V g (.own n 0 l.length) v):V g (.own n 0 (Cn l m).length) v:=by rw[Ep];exact h
theorem AO.copyL {α:Type} {f:α→AV} {l m:List α} {T U E:TypeId} {s y:Operand} {z n:Nat} (i:Nat) (d:Nat) (hd:o.dst=some d) (hN:d<N) (hg:o.guard=none)
 (ho:o.op=.call {callee:=.builtin .copy,args:= #[s,y],argTypes:= #[T,U]}) (hs:AZ.ev ρ s=some (.own n 0 l.length)) (hy:AZ.ev ρ y=some (.fz z (m.map f))) (hi:H[i]? =some (n,.mem (.ar z (l.map f))))
 (ht:P.underlying T=some (.slice E)) (hz:AX P E=some z)
 (h:AO P N ops rest K ((d,.fl (.int .i64 ((min m.length l.length:Nat):Int)))::ρ) (H.set i (n,.mem (.ar z ((Cn l m).map f))))):AO P N ops (o::rest) K ρ H:=
 AO.step hg d hd hN fun F g a w se h3=>by
  have e1:AU g (.own n 0 l.length) [a.eval s]:=se.ev hs;obtain⟨pre,A,cap,e2,sp,e4⟩:=RV (P:=P) h3 (show AU g (.fz z (m.map f)) [a.eval y]from se.ev hy) (min m.length l.length) (by rw[List.length_map];exact Nat.min_le_left _ _);rw[List.length_map]at e2;rw[e2]at e4;have hpl:pre.length=min m.length l.length*z:=by
   rw[sp.ar_length];congr 1;simp[Nat.min_assoc]
  obtain⟨p',q1,q2,q3⟩:=h3.obj n _ (List.mem_of_getElem? hi);simp only[AX,Option.map_eq_some_iff]at hz;obtain⟨inf,hinf,hsz⟩:=hz;have hmin:Nat.min m.length l.length=min m.length l.length:=rfl;generalize hv:a.eval s=v at e1;generalize hL:l.length=L at e1
  cases e1 with
  | @own _ _ _ p b hn hb hlc=>
    subst hL;obtain rfl:p'=p:=Option.some.inj (q1.symm.trans hn);obtain⟨hz',lc,sl,r⟩:=q2;rcases r with⟨b',c,T',e5,e6,e7,e8,e9⟩|⟨e5,_⟩
    ·obtain rfl:b'=b:=Option.some.inj (e5.symm.trans hb);have hlcl:lc.length=l.length*z:=by rw[sl.ar_length,List.length_map]
     have hle:min m.length l.length*z≤l.length*z:=Nat.mul_le_mul_right _ (Nat.min_le_right _ _);have hst:=run_storeCells_at P b' p'.base T' pre 0 c w e6 (by rw[hpl];omega) sp.one;simp only[Nat.zero_mul,Nat.add_zero]at hst
     refine⟨.int .i64 ((min m.length l.length:Nat):Int),g,w.setRow b' (c.toList.take p'.base++pre++c.toList.drop (p'.base+pre.length)).toArray,.fl (.int .i64 ((min m.length l.length:Nat):Int)),_,?_,G.le.refl g,rfl,
      h3.set (p':=p') (m':=.mem (.ar z ((Cn l m).map f))) hi hn (G.le.refl g) (fun _ _=>rfl) rfl rfl rfl (by simp) (fun k hk hne=>setRow_other w b' k _ (fun e=>hne (by rw[e5,e]))) hn ⟨fun z hz''=>hz' z hz'',pre++lc.drop (min m.length l.length*z),?_,.inl ⟨b',_,T',e5,setRow_heap w b' c _ T' _ e6,?_,?_,?_⟩⟩ (fun b hb'=>.inl hb'),h⟩
     ·have hbase:p'.base+0*p'.esz=p'.base:=by simp
      rw[hbase]at hv;simp only[execOp,ho,resolve,invoke,builtin];simp[hv,e2,Builtin.copy_,run_underlying ht,Builtin.lenOf,sizeOf,typeInfo,hinf,hsz,hmin,e4,hst,goInt]
     ·rw[MW,List.map_append,List.map_take,List.map_drop];exact sp.append (sl.ar_drop _)
     ·simp only[List.size_toArray,List.length_append,List.length_take,List.length_drop,Array.length_toList];rw[hpl];omega
     ·simp only[List.size_toArray,List.length_append,List.length_take,List.length_drop,Array.length_toList];rw[hpl];omega
     ·intro j u hj;simp only[List.getElem?_toArray];rcases Nat.lt_or_ge j pre.length with hlt|hge
      ·rw[List.getElem?_append_left hlt]at hj;rw[List.append_assoc,List.getElem?_append_right (by simp;omega),List.getElem?_append_left (by simp;omega), ←hj];congr 1;simp;omega
      ·rw[List.getElem?_append_right hge,List.getElem?_drop,hpl]at hj;have:=e9 _ _ hj;rw[List.getElem?_append_right (by simp;omega),List.getElem?_drop];rw[←this, ←Array.getElem?_toList];congr 1;simp;omega
    ·rw[e5]at hb;cases hb
  | @own0 _ _ p ad hn hb=>
    have hl0:l=[]:=List.eq_nil_of_length_eq_zero hL;subst hl0;have hp0:pre=[]:=List.eq_nil_of_length_eq_zero (by rw[hpl];simp);subst hp0;have hset:H.set i (n,.mem (.ar z ((Cn [] m).map f)))=H:=by
     rw[show Cn ([]:List α) m=[]by simp[Cn]];apply List.ext_getElem?;intro j;rw[List.getElem?_set];split
     ·rename_i e;subst e;rw[hi,if_pos (List.getElem?_eq_some_iff.1 hi).1]
     ·rfl
    refine⟨.int .i64 ((min m.length 0:Nat):Int),g,w,.fl (.int .i64 ((min m.length 0:Nat):Int)),H,?_,G.le.refl g,rfl,h3,by rw[←hset];exact h⟩;simp only[execOp,ho,resolve,invoke,builtin];simp at e4;cases ad<;>simp[hv,e2,Builtin.copy_,run_underlying ht,Builtin.lenOf,sizeOf,typeInfo,hinf,hsz,e4,goInt,storeCells]
theorem L2 {g:G} {n a b:Nat} {v:Value} (e:a=b) (h:V g (.own n 0 a) v):V g (.own n 0 b) v:=e▸h
theorem Az {α:Type} {n z:Nat} (f:α→AV) (v:Vector α n):(AV.ar z (v.toList.map f)).size=n*z:=by simp[AV.size]
end
end Go.Avl
namespace Go.Avl
open Go Go.RowKit
set_option linter.unusedVariables false
inductive A8:List Nat→AZ→AZ→Prop
 | nil {ρ:AZ}:A8 [] ρ []
 | cons {t:Nat} {ts:List Nat} {ρ ρ':AZ} {x:AV}:ρ.lookup t=some x→A8 ts ρ ρ'→A8 (t::ts) ρ ((t,x)::ρ')
theorem A8.sub {ts:List Nat} {ρ ρ':AZ} (h:A8 ts ρ ρ'):Cs ρ' ρ:=by
 induction h with
 | nil=>trivial
 | cons h _ ih=>exact⟨h,ih⟩
theorem bD {a b:Bool} (h:a=b):some (AV.fl (Value.bool a))=some (AV.fl (Value.bool b)):=congrArg (fun b=>some (AV.fl (Value.bool b))) h
theorem R6 {p:Prop} [Decidable p] {α:Type} {a b r:α} (h:(if p then a else b)=r):(p∧a=r)∨(¬p∧b=r):=by
 by_cases q:p
 ·exact .inl ⟨q,by rwa [if_pos q]at h⟩
 ·exact .inr ⟨q,by rwa [if_neg q]at h⟩
section
variable {P:Program} {N:Nat} {ops:Array Oper} {o:Oper} {rest:List Oper} {K:AZ→AN→Prop} {ρ ρ':AZ} {H H':AN} {x:AV}
theorem AO.c {d:Nat} (hc:AG P o ρ H x) (h:AO P N ops rest K ((d,x)::ρ) H) (hg:o.guard=none:=by rfl) (hd:o.dst=some d:=by rfl) (hN:d<N:=by decide):AO P N ops (o::rest) K ρ H:=AO.calm hg d hd hN x hc h
theorem AO.cG {d j e:Nat} {b:Bool} (hg:o.guard=some (j,b)) (he:(ops[j]?).bind (·.dst)=some e) (hb:ρ.lookup e=some (.fl (.bool b))) (hc:AG P o ρ H x) (h:AO P N ops rest K ((d,x)::ρ) H) (hd:o.dst=some d:=by rfl) (hN:d<N:=by decide):AO P N ops (o::rest) K ρ H:=AO.calmG j b e hg he hb d hd hN x hc h
theorem AO.sT {d j e:Nat} (hg:o.guard=some (j,true)) (he:(ops[j]?).bind (·.dst)=some e) (hb:ρ.lookup e=some (.fl (.bool false))) (h:AO P N ops rest K ((d,.fl undef)::ρ) H) (hd:o.dst=some d:=by rfl) (hN:d<N:=by decide):AO P N ops (o::rest) K ρ H:=AO.skipG j false e hg he hb d hd hN h
theorem AO.sF {d j e:Nat} (hg:o.guard=some (j,false)) (he:(ops[j]?).bind (·.dst)=some e) (hb:ρ.lookup e=some (.fl (.bool true))) (h:AO P N ops rest K ((d,.fl undef)::ρ) H) (hd:o.dst=some d:=by rfl) (hN:d<N:=by decide):AO P N ops (o::rest) K ρ H:=AO.skipG j true e hg he hb d hd hN h
theorem AO.sU {d j e:Nat} {b:Bool} (hg:o.guard=some (j,b)) (he:(ops[j]?).bind (·.dst)=some e) (hb:ρ.lookup e=some (.fl undef)) (h:AO P N ops rest K ((d,.fl undef)::ρ) H) (hd:o.dst=some d:=by rfl) (hN:d<N:=by decide):AO P N ops (o::rest) K ρ H:=AO.skipU j b e hg he hb d hd hN h
theorem AO.nK (ks:List Nat) (hk:K ρ' H) (hs:A8 ks ρ ρ':=by repeat' (first|exact A8.nil|apply A8.cons rfl)):AO P N ops [] K ρ H:=AO.nil hs.sub (BS.refl _) hk
theorem AO.nH (ks:List Nat) (hH:BS H' H) (hk:K ρ' H') (hs:A8 ks ρ ρ':=by repeat' (first|exact A8.nil|apply A8.cons rfl)):AO P N ops [] K ρ H:=AO.nil hs.sub hH hk
theorem AO.wK (ks:List Nat) (h:AO P N ops rest K ρ' H) (hs:A8 ks ρ ρ':=by repeat' (first|exact A8.nil|apply A8.cons rfl)):AO P N ops rest K ρ H:=AO.weak hs.sub (BS.refl _) h
theorem AO.wH (ks:List Nat) (hH:BS H' H) (h:AO P N ops rest K ρ' H') (hs:A8 ks ρ ρ':=by repeat' (first|exact A8.nil|apply A8.cons rfl)):AO P N ops rest K ρ H:=AO.weak hs.sub hH h
theorem AO.nE {d:Nat} (hl:ρ.lookup d=some x) (hk:K [(d,x)] H):AO P N ops [] K ρ H:=AO.nil (ρ':=[(d,x)]) ⟨hl,trivial⟩ (BS.refl _) hk
theorem AO.n0 (hk:K [] H):AO P N ops [] K ρ H:=AO.nil (ρ':=[]) trivial (BS.refl _) hk
end
section
variable {P:Program} {N:Nat} {ops:Array Oper} {o:Oper} {rest:List Oper} {K:AZ→Prop} {ρ ρ':AZ} {H H':AN} {x:AV}
theorem AQ.c {d:Nat} (hc:AG P o ρ H x) (h:AQ P N ops rest K ((d,x)::ρ) H) (hg:o.guard=none:=by rfl) (hd:o.dst=some d:=by rfl) (hN:d<N:=by decide):AQ P N ops (o::rest) K ρ H:=AQ.calm hg d hd hN x hc h
theorem AQ.cG {d j e:Nat} {b:Bool} (hg:o.guard=some (j,b)) (he:(ops[j]?).bind (·.dst)=some e) (hb:ρ.lookup e=some (.fl (.bool b))) (hc:AG P o ρ H x) (h:AQ P N ops rest K ((d,x)::ρ) H) (hd:o.dst=some d:=by rfl) (hN:d<N:=by decide):AQ P N ops (o::rest) K ρ H:=AQ.calmG j b e hg he hb d hd hN x hc h
theorem AQ.sT {d j e:Nat} (hg:o.guard=some (j,true)) (he:(ops[j]?).bind (·.dst)=some e) (hb:ρ.lookup e=some (.fl (.bool false))) (h:AQ P N ops rest K ((d,.fl undef)::ρ) H) (hd:o.dst=some d:=by rfl) (hN:d<N:=by decide):AQ P N ops (o::rest) K ρ H:=AQ.skipG j false e hg he hb d hd hN h
theorem AQ.sF {d j e:Nat} (hg:o.guard=some (j,false)) (he:(ops[j]?).bind (·.dst)=some e) (hb:ρ.lookup e=some (.fl (.bool true))) (h:AQ P N ops rest K ((d,.fl undef)::ρ) H) (hd:o.dst=some d:=by rfl) (hN:d<N:=by decide):AQ P N ops (o::rest) K ρ H:=AQ.skipG j true e hg he hb d hd hN h
theorem AQ.sU {d j e:Nat} {b:Bool} (hg:o.guard=some (j,b)) (he:(ops[j]?).bind (·.dst)=some e) (hb:ρ.lookup e=some (.fl undef)) (h:AQ P N ops rest K ((d,.fl undef)::ρ) H) (hd:o.dst=some d:=by rfl) (hN:d<N:=by decide):AQ P N ops (o::rest) K ρ H:=AQ.skipU j b e hg he hb d hd hN h
theorem AQ.nK (ks:List Nat) (hk:K ρ') (hs:A8 ks ρ ρ':=by repeat' (first|exact A8.nil|apply A8.cons rfl)):AQ P N ops [] K ρ H:=AQ.nil hs.sub hk
end
section
variable {P:Program} {N:Nat} {Q:Exit→AZ→AN→Prop} {ρ ρ':AZ} {H H':AN} {c c':Code}
theorem AW.wK (ks:List Nat) (h:AW P N c Q ρ' H) (hs:A8 ks ρ ρ':=by repeat' (first|exact A8.nil|apply A8.cons rfl)):AW P N c Q ρ H:=AW.weak hs.sub (BS.refl _) h
theorem AW.wH (ks:List Nat) (hH:BS H' H) (h:AW P N c Q ρ' H') (hs:A8 ks ρ ρ':=by repeat' (first|exact A8.nil|apply A8.cons rfl)):AW P N c Q ρ H:=AW.weak hs.sub hH h
theorem AW.sK (ks:List Nat) (h:Q .normal ρ' H) (hs:A8 ks ρ ρ':=by repeat' (first|exact A8.nil|apply A8.cons rfl)):AW P N .skip Q ρ H:=AW.skip hs.sub (BS.refl _) h
theorem AW.sH (ks:List Nat) (hH:BS H' H) (h:Q .normal ρ' H') (hs:A8 ks ρ ρ':=by repeat' (first|exact A8.nil|apply A8.cons rfl)):AW P N .skip Q ρ H:=AW.skip hs.sub hH h
theorem AW.eK {id:Nat} (ks:List Nat) (h:Q (.exit id) ρ' H) (hs:A8 ks ρ ρ':=by repeat' (first|exact A8.nil|apply A8.cons rfl)):AW P N (.exit id) Q ρ H:=AW.exit hs.sub (BS.refl _) h
theorem AW.eH {id:Nat} (ks:List Nat) (hH:BS H' H) (h:Q (.exit id) ρ' H') (hs:A8 ks ρ ρ':=by repeat' (first|exact A8.nil|apply A8.cons rfl)):AW P N (.exit id) Q ρ H:=AW.exit hs.sub hH h
theorem AW.rK (ks:List Nat) (h:Q .ret ρ' H) (hs:A8 ks ρ ρ':=by repeat' (first|exact A8.nil|apply A8.cons rfl)):AW P N .ret Q ρ H:=AW.ret hs.sub (BS.refl _) h
theorem AW.rH (ks:List Nat) (hH:BS H' H) (h:Q .ret ρ' H') (hs:A8 ks ρ ρ':=by repeat' (first|exact A8.nil|apply A8.cons rfl)):AW P N .ret Q ρ H:=AW.ret hs.sub hH h
theorem AW.sr {id:Nat} {l:List Oper} {rest:Code} (h:AO P N l.toArray l (Ml (AW P N rest Q) Q .normal) ρ H):AW P N (.seq (.region id l.toArray false) rest) Q ρ H:=AW.seq (AW.reg h)
end
def QL (ρ:AZ):List Operand→List AV→Prop
 | [],[]=>True
 | y::ys,x::xs=>(∃ x0,AZ.ev ρ y=some x0∧EW x0 x∧x.notTup=true)∧QL ρ ys xs
 | _,_=>False
theorem QL.all {g:G} {ρ:AZ} {a:Act} (s:A2 g ρ a):∀ {ys:List Operand} {xs:List AV},QL ρ ys xs→Bs (V1 g) xs (ys.map a.eval)
 | [],[],_=>.nil
 | y::ys,x::xs,h=>by
   obtain⟨⟨x0,h1,h2,h3⟩,h4⟩:=h;exact .cons ((h2.v (s.ev h1)).toV1 h3) (QL.all s h4)
 | [],_::_,h=>h.elim
 | _::_,[],h=>h.elim
section
variable {P:Program} {N:Nat} {ops:Array Oper} {o:Oper} {rest:List Oper} {K:AZ→AN→Prop} {ρ:AZ} {H:AN}
end
end Go.Avl
namespace Go.Avl
open Go Go.RowKit Go.MapKept
set_option linter.unusedVariables false
set_option linter.unusedSectionVars false
section
variable {α β:Type} [DecidableEq α] {kf:α→Value} {f:β→AV} {P:Program} {kt:TypeId}
variable {N:Nat} {ops:Array Oper} {o:Oper} {rest:List Oper} {K:AZ→AN→Prop} {ρ:AZ} {H:AN} {x:AV}
end
end Go.Avl
namespace Go.Avl
open Go Go.RowKit
set_option linter.all false
theorem AO.mv {P:Program} {N:Nat} {ops:Array Oper} {o:Oper} {rest:List Oper} {K:AZ→AN→Prop} {ρ:AZ} {H:AN} {x:AV} {d:Nat} {y:Operand} (ho:o.op=.move y) (hy:AZ.ev ρ y=some x) (h:AO P N ops rest K ((d,x)::ρ) H) (hg:o.guard=none:=by rfl) (hd:o.dst=some d:=by rfl) (hN:d<N:=by decide):AO P N ops (o::rest) K ρ H:=AO.c (AG.move ho hy) h hg hd hN
theorem AO.ag {P:Program} {N:Nat} {ops:Array Oper} {o:Oper} {rest:List Oper} {K:AZ→AN→Prop} {ρ:AZ} {H:AN} {x:AV} {d:Nat} {y:Operand} (ho:o.op=.assign y) (hy:AZ.ev ρ y=some x) (h:AO P N ops rest K ((d,x)::ρ) H) (hg:o.guard=none:=by rfl) (hd:o.dst=some d:=by rfl) (hN:d<N:=by decide):AO P N ops (o::rest) K ρ H:=AO.c (AG.assign ho hy) h hg hd hN
class E4 (P:Program) (T:TypeId) (a:outParam Bool) (z:outParam Nat):Prop where
 ag:Ao P T=some a
 sz:AX P T=some z
inductive HS:AN→Nat→EX→Prop
 | h {H n m}:HS ((n,m)::H) n m
 | t {H n m x}:HS H n m→HS (x::H) n m
theorem HS.get {H:AN} {n:Nat} {m:EX} (h:HS H n m):∃ i:Nat,H[i]? =some (n,m):=by
 induction h with
 | h=>exact⟨0,rfl⟩
 | t _ ih=>obtain⟨i,hi⟩:=ih;exact⟨i+1,by simpa using hi⟩
mutual
inductive Ja:AV→Nat→Bool→Nat→AV→Prop
 | h {x a z}:x.isAgg=a→x.size=z→Ja x 0 a z x
 | st {cs o a z y}:L8 cs o a z y→Ja (.st cs) o a z y
inductive L8:List (Nat×AV)→Nat→Bool→Nat→AV→Prop
 | f {k c cs o a z y}:Ja c o a z y→L8 ((k,c)::cs) o a z y
 | s {k c cs o o' a z y}:o'+k=o→L8 cs o' a z y→L8 ((k,c)::cs) o a z y
end
mutual
theorem Ja.at {x y:AV} {o z:Nat} {a:Bool}:Ja x o a z y→At x o y∧y.size=z∧y.isAgg=a
 | .h e e2=>⟨.here,e2,e⟩
 | .st h=>h.at
theorem L8.at {cs:List (Nat×AV)} {y:AV} {o z:Nat} {a:Bool}:L8 cs o a z y→At (.st cs) o y∧y.size=z∧y.isAgg=a
 | .f h=>⟨.fld0 h.at.1,h.at.2⟩
 | .s e h=>⟨by rw[←e,Nat.add_comm];exact .fldS h.at.1,h.at.2⟩
end
section
variable {P:Program} {o:Oper} {ρ:AZ} {H:AN} {x:AV}
theorem AG.ldA {T:TypeId} {y:Operand} {n off z:Nat} {a:Bool} {X:AV} (ho:o.op=.load T y) (hy:AZ.ev ρ y=some (.ptr n off)) (hT:E4 P T a z) (hi:HS H n (.mem X)) (ht:Ja X off a z x):AG P o ρ H x:=by
 obtain⟨i,hi⟩:=hi.get;exact AG.load i ho hy hi ht.at.1 (by rw[ht.at.2.2];exact hT.ag) (by rw[ht.at.2.1];exact hT.sz)
theorem AG.lrA {T:TypeId} {y:Operand} {z:Nat} {a:Bool} (ho:o.op=.load T y) (hy:AZ.ev ρ y=some (.rp x)) (hT:E4 P T a z) (hx:x.size=z) (ha:a=x.isAgg):AG P o ρ H x:=AG.loadRp ho hy (by rw[←ha];exact hT.ag) (by rw[hx];exact hT.sz)
theorem AG.ioA {α:Type} {f:α→AV} {l:List α} {T E:TypeId} {y iy:Operand} {z n:Nat} {k:IntKind} {i:Int} (ho:o.op=.indexAddr T y iy) (hy:AZ.ev ρ y=some (.own n 0 l.length)) (hiy:AZ.ev ρ iy=some (.fl (.int k i)))
 (hH:HS H n (.mem (.ar z (l.map f)))) (h:0≤i∧i<(l.length:Int)) (ht:P.underlying T=some (.slice E)) (hz:AX P E=some z):AG P o ρ H (.ptr n (i.toNat*z+0)):=by
 obtain⟨j,hj⟩:=hH.get;exact AG.idxO j ho hy hiy hj h ht hz
end
inductive KT (ops:Array Oper) (ρ:AZ) (o:Oper):Prop
 | n:o.guard=none→KT ops ρ o
 | s {j e:Nat} {b:Bool}:o.guard=some (j,b)→(ops[j]?).bind (·.dst)=some e→ρ.lookup e=some (.fl (.bool b))→KT ops ρ o
inductive Hq (ops:Array Oper) (ρ:AZ) (o:Oper):Prop
 | t {j e:Nat}:o.guard=some (j,true)→(ops[j]?).bind (·.dst)=some e→ρ.lookup e=some (.fl (.bool false))→Hq ops ρ o
 | f {j e:Nat}:o.guard=some (j,false)→(ops[j]?).bind (·.dst)=some e→ρ.lookup e=some (.fl (.bool true))→Hq ops ρ o
 | u {j e:Nat} {b:Bool}:o.guard=some (j,b)→(ops[j]?).bind (·.dst)=some e→ρ.lookup e=some (.fl undef)→Hq ops ρ o
structure BI (n:Nat) (P:Program) (N:Nat) (ops:Array Oper) (rest:List Oper) (K:AZ→AN→Prop) (ρ:AZ) (H:AN):Prop where
 h:AO P N ops rest K ρ H
structure EO (n:Nat) (P:Program) (N:Nat) (ops:Array Oper) (rest:List Oper) (K:AZ→Prop) (ρ:AZ) (H:AN):Prop where
 h:AQ P N ops rest K ρ H
structure B8 (n:Nat) (P:Program) (N:Nat) (c:Code) (Q:Exit→AZ→AN→Prop) (ρ:AZ) (H:AN):Prop where
 h:AW P N c Q ρ H
structure Ri (p:Prop):Prop where
 h:p
structure Kk (n:Nat) (p:Prop):Prop where
 h:p
section
variable {n:Nat} {P:Program} {N:Nat} {ops:Array Oper} {o:Oper} {rest:List Oper} {K:AZ→AN→Prop} {Kq:AZ→Prop} {Q:Exit→AZ→AN→Prop} {c c':Code} {ρ:AZ} {H:AN} {x:AV}
theorem BI.z (h:AO P N ops rest K ρ H):BI 0 P N ops rest K ρ H:=⟨h⟩
theorem EO.z (h:AQ P N ops rest Kq ρ H):EO 0 P N ops rest Kq ρ H:=⟨h⟩
theorem B8.z (h:AW P N c Q ρ H):B8 0 P N c Q ρ H:=⟨h⟩
theorem Kk.aw (h:B8 n P N c Q ρ H):Kk n (AW P N c Q ρ H):=⟨h.h⟩
theorem BI.cc {d:Nat} (hc:AG P o ρ H x) (h:BI n P N ops rest K ((d,x)::ρ) H) (hw:KT ops ρ o:=by first|exact KT.n rfl|exact KT.s rfl rfl (bD (by assumption))|exact KT.s rfl rfl (bD (decide_eq_true (by assumption)))|exact KT.s rfl rfl (bD (decide_eq_false (by assumption)))|exact KT.s rfl rfl (bD (eq_false_of_ne_true (by assumption)))|exact KT.s rfl rfl rfl) (hd:o.dst=some d:=by rfl) (hN:d<N:=by decide):BI (n+1) P N ops (o::rest) K ρ H:=
 ⟨match hw with
   | .n hg=>AO.c hc h.h hg hd hN
   | .s h1 h2 h3=>AO.cG h1 h2 h3 hc h.h hd hN⟩
theorem BI.kk {d j:Nat} {b:Bool} (hg:o.guard=some (j,b)) (h:BI n P N ops rest K ((d,.fl undef)::ρ) H) (hw:Hq ops ρ o:=by first|exact Hq.t rfl rfl (bD (by assumption))|exact Hq.t rfl rfl (bD (decide_eq_false (by assumption)))|exact Hq.t rfl rfl (bD (eq_false_of_ne_true (by assumption)))|exact Hq.t rfl rfl rfl|exact Hq.f rfl rfl (bD (by assumption))|exact Hq.f rfl rfl (bD (decide_eq_true (by assumption)))|exact Hq.f rfl rfl rfl|exact Hq.u rfl rfl rfl) (hd:o.dst=some d:=by rfl) (hN:d<N:=by decide):BI (n+1) P N ops (o::rest) K ρ H:=
 ⟨match hw with
   | .t h1 h2 h3=>AO.sT h1 h2 h3 h.h hd hN
   | .f h1 h2 h3=>AO.sF h1 h2 h3 h.h hd hN
   | .u h1 h2 h3=>AO.sU h1 h2 h3 h.h hd hN⟩
theorem EO.cc {d:Nat} (hc:AG P o ρ H x) (h:EO n P N ops rest Kq ((d,x)::ρ) H) (hw:KT ops ρ o:=by first|exact KT.n rfl|exact KT.s rfl rfl (bD (by assumption))|exact KT.s rfl rfl (bD (decide_eq_true (by assumption)))|exact KT.s rfl rfl (bD (decide_eq_false (by assumption)))|exact KT.s rfl rfl (bD (eq_false_of_ne_true (by assumption)))|exact KT.s rfl rfl rfl) (hd:o.dst=some d:=by rfl) (hN:d<N:=by decide):EO (n+1) P N ops (o::rest) Kq ρ H:=
 ⟨match hw with
   | .n hg=>AQ.c hc h.h hg hd hN
   | .s h1 h2 h3=>AQ.cG h1 h2 h3 hc h.h hd hN⟩
theorem EO.kk {d j:Nat} {b:Bool} (hg:o.guard=some (j,b)) (h:EO n P N ops rest Kq ((d,.fl undef)::ρ) H) (hw:Hq ops ρ o:=by first|exact Hq.t rfl rfl (bD (by assumption))|exact Hq.t rfl rfl (bD (decide_eq_false (by assumption)))|exact Hq.t rfl rfl (bD (eq_false_of_ne_true (by assumption)))|exact Hq.t rfl rfl rfl|exact Hq.f rfl rfl (bD (by assumption))|exact Hq.f rfl rfl (bD (decide_eq_true (by assumption)))|exact Hq.f rfl rfl rfl|exact Hq.u rfl rfl rfl) (hd:o.dst=some d:=by rfl) (hN:d<N:=by decide):EO (n+1) P N ops (o::rest) Kq ρ H:=
 ⟨match hw with
   | .t h1 h2 h3=>AQ.sT h1 h2 h3 h.h hd hN
   | .f h1 h2 h3=>AQ.sF h1 h2 h3 h.h hd hN
   | .u h1 h2 h3=>AQ.sU h1 h2 h3 h.h hd hN⟩
theorem BI.nn (h:Kk n (K ρ H)):BI (n+1) P N ops [] K ρ H:=⟨fun F g a w Q h1 h2 h3 h4=>h4 g ρ H a w (.refl g) h1 h2 rfl h3 h.h⟩
theorem B8.sr {id:Nat} {l:List Oper} {r:Code} (h:BI n P N l.toArray l (Ml (AW P N r Q) Q .normal) ρ H):B8 (n+1) P N (.seq (.region id l.toArray false) r) Q ρ H:=⟨AW.sr h.h⟩
theorem EO.nn (h:Kk n (Kq ρ)):EO (n+1) P N ops [] Kq ρ H:=⟨fun F g a w Q h1 h2 h3 h4=>h4 ρ a h1 h2 rfl h.h⟩
theorem B8.seq (h:B8 n P N c (Ml (AW P N c' Q) Q) ρ H):B8 (n+1) P N (.seq c c') Q ρ H:=⟨AW.seq h.h⟩
theorem B8.block {id:Nat} (h:B8 n P N c (Id id Q) ρ H):B8 (n+1) P N (.block id c) Q ρ H:=⟨AW.block h.h⟩
theorem B8.reg {id:Nat} {l:List Oper} (h:BI n P N l.toArray l (Q .normal) ρ H):B8 (n+1) P N (.region id l.toArray false) Q ρ H:=⟨AW.reg h.h⟩
theorem B8.cP {y:Operand} {p:Prop} [Decidable p] (hy:AZ.ev ρ y=some (.fl (.bool (decide p)))) (hp:p) (h:B8 n P N c Q ρ H):B8 (n+1) P N (.cond y c c') Q ρ H:=⟨AW.condP p hy hp h.h⟩
theorem B8.cN {y:Operand} {p:Prop} [Decidable p] (hy:AZ.ev ρ y=some (.fl (.bool (decide p)))) (hp:¬ p) (h:B8 n P N c' Q ρ H):B8 (n+1) P N (.cond y c c') Q ρ H:=⟨AW.condN p hy hp h.h⟩
theorem B8.cT {y:Operand} {b:Bool} (hy:AZ.ev ρ y=some (.fl (.bool b))) (hb:b=true) (h:B8 n P N c Q ρ H):B8 (n+1) P N (.cond y c c') Q ρ H:=⟨AW.condT' b hy hb h.h⟩
theorem B8.cF {y:Operand} {b:Bool} (hy:AZ.ev ρ y=some (.fl (.bool b))) (hb:¬ b=true) (h:B8 n P N c' Q ρ H):B8 (n+1) P N (.cond y c c') Q ρ H:=⟨AW.condF' b hy hb h.h⟩
theorem B8.kk (h:Kk n (Q .normal ρ H)):B8 (n+1) P N .skip Q ρ H:=⟨fun F g a w R h1 h2 h3 h4=>wp_skip (h4 _ g ρ H a w (.refl g) h1 h2 rfl h3 h.h)⟩
theorem BI.pre (h:BI n P N ops rest K ρ H):BI n P N ops rest K ρ H:=h
theorem B8.pre (h:B8 n P N c Q ρ H):B8 n P N c Q ρ H:=h
theorem EO.pre (h:EO n P N ops rest Kq ρ H):EO n P N ops rest Kq ρ H:=h
theorem AO.a (n:Nat) {p:Prop} (hp:p) (h:Ri p→BI n P N ops rest K ρ H:=by
 intro hp
 repeat (first
  | exact BI.z hp.h
  | exact B8.z hp.h
  | (refine BI.pre ?_;first
    | refine BI.cc (AG.move (by rfl) (by rfl)) ?_
    | refine BI.nn (Kk.aw ?_)
    | refine BI.kk (by rfl) ?_
    | refine BI.cc (AG.ldA (by rfl) (by rfl) (by infer_instance) (by repeat (first|exact HS.h|apply HS.t)) (by repeat (first|exact Ja.h rfl rfl|apply L8.s rfl|apply L8.f|apply Ja.st|exact Ja.h rfl (by simp[AV.size])))) ?_
    | refine BI.cc (AG.assign (by rfl) (by rfl)) ?_
    | refine BI.cc (AG.int (by rfl) (by rfl) (by rfl) (by rfl)) ?_
    | refine BI.cc (AG.pickT (by rfl) (by first|exact rfl|exact bD (by assumption)|exact bD (decide_eq_true (by assumption))) (by rfl)) ?_
    | refine BI.cc (AG.pickF (by rfl) (by first|exact rfl|exact bD (by assumption)|exact bD (decide_eq_false (by assumption))|exact bD (eq_false_of_ne_true (by assumption))) (by rfl)) ?_
    | refine BI.cc (AG.extract (by rfl) (by rfl) (by rfl)) ?_
    | refine BI.cc (AG.not (by rfl) (by rfl)) ?_
    | refine BI.cc (AG.lrA (by rfl) (by rfl) (by infer_instance) (by first|rfl|simp[AV.size]) (by rfl)) ?_
    | refine BI.cc (AG.lenL (by rfl) (by rfl) (by rfl)) ?_
    | refine BI.cc (AG.lenOwn (by rfl) (by rfl) (by rfl)) ?_
    | refine BI.cc (AG.lenStr (by rfl) (by rfl) (by rfl)) ?_
    | refine BI.cc (AG.fldPtr (by rfl) (by rfl) (by rfl) (by rfl) (by rfl) _ (by first| (simp;rfl)|rfl)) ?_
    | refine BI.cc (AG.nilCheck (by rfl) (by rfl)) ?_
    | refine BI.cc (AG.idxL (by rfl) (by rfl) (by rfl) (by assumption) (by rfl) (by rfl)) ?_
    | refine BI.cc (AG.ioA (by rfl) (by rfl) (by rfl) (by repeat (first|exact HS.h|apply HS.t)) (by assumption) (by rfl) (by rfl)) ?_
    | refine BI.cc (AG.idxP (by rfl) (by rfl) (by rfl) (by assumption) (by rfl) (by rfl)) ?_
    | refine BI.cc (AG.idxS (by rfl) (by rfl) (by rfl) (by assumption) (by rfl)) ?_
    | refine BI.cc (AG.conv (by rfl) (by rfl) (by rfl) (by rfl)) ?_
    | refine BI.cc (AG.str (by rfl) (by rfl) (by rfl) (by rfl)) ?_)
  | (refine B8.pre ?_;first
    | refine B8.seq ?_
    | refine B8.block ?_
    | refine B8.reg ?_
    | refine B8.cP (by rfl) (by assumption) ?_
    | refine B8.cN (by rfl) (by assumption) ?_
    | refine B8.cT (by rfl) (by assumption) ?_
    | refine B8.cF (by rfl) (by assumption) ?_
    | refine B8.kk (Kk.aw ?_)))):AO P N ops rest K ρ H:=(h ⟨hp⟩).h
theorem AW.a (n:Nat) {p:Prop} (hp:p) (h:Ri p→B8 n P N c Q ρ H:=by
 intro hp
 repeat (first
  | exact BI.z hp.h
  | exact B8.z hp.h
  | (refine BI.pre ?_;first
    | refine BI.cc (AG.move (by rfl) (by rfl)) ?_
    | refine BI.nn (Kk.aw ?_)
    | refine BI.kk (by rfl) ?_
    | refine BI.cc (AG.ldA (by rfl) (by rfl) (by infer_instance) (by repeat (first|exact HS.h|apply HS.t)) (by repeat (first|exact Ja.h rfl rfl|apply L8.s rfl|apply L8.f|apply Ja.st|exact Ja.h rfl (by simp[AV.size])))) ?_
    | refine BI.cc (AG.assign (by rfl) (by rfl)) ?_
    | refine BI.cc (AG.int (by rfl) (by rfl) (by rfl) (by rfl)) ?_
    | refine BI.cc (AG.pickT (by rfl) (by first|exact rfl|exact bD (by assumption)|exact bD (decide_eq_true (by assumption))) (by rfl)) ?_
    | refine BI.cc (AG.pickF (by rfl) (by first|exact rfl|exact bD (by assumption)|exact bD (decide_eq_false (by assumption))|exact bD (eq_false_of_ne_true (by assumption))) (by rfl)) ?_
    | refine BI.cc (AG.extract (by rfl) (by rfl) (by rfl)) ?_
    | refine BI.cc (AG.not (by rfl) (by rfl)) ?_
    | refine BI.cc (AG.lrA (by rfl) (by rfl) (by infer_instance) (by first|rfl|simp[AV.size]) (by rfl)) ?_
    | refine BI.cc (AG.lenL (by rfl) (by rfl) (by rfl)) ?_
    | refine BI.cc (AG.lenOwn (by rfl) (by rfl) (by rfl)) ?_
    | refine BI.cc (AG.lenStr (by rfl) (by rfl) (by rfl)) ?_
    | refine BI.cc (AG.fldPtr (by rfl) (by rfl) (by rfl) (by rfl) (by rfl) _ (by first| (simp;rfl)|rfl)) ?_
    | refine BI.cc (AG.nilCheck (by rfl) (by rfl)) ?_
    | refine BI.cc (AG.idxL (by rfl) (by rfl) (by rfl) (by assumption) (by rfl) (by rfl)) ?_
    | refine BI.cc (AG.ioA (by rfl) (by rfl) (by rfl) (by repeat (first|exact HS.h|apply HS.t)) (by assumption) (by rfl) (by rfl)) ?_
    | refine BI.cc (AG.idxP (by rfl) (by rfl) (by rfl) (by assumption) (by rfl) (by rfl)) ?_
    | refine BI.cc (AG.idxS (by rfl) (by rfl) (by rfl) (by assumption) (by rfl)) ?_
    | refine BI.cc (AG.conv (by rfl) (by rfl) (by rfl) (by rfl)) ?_
    | refine BI.cc (AG.str (by rfl) (by rfl) (by rfl) (by rfl)) ?_)
  | (refine B8.pre ?_;first
    | refine B8.seq ?_
    | refine B8.block ?_
    | refine B8.reg ?_
    | refine B8.cP (by rfl) (by assumption) ?_
    | refine B8.cN (by rfl) (by assumption) ?_
    | refine B8.cT (by rfl) (by assumption) ?_
    | refine B8.cF (by rfl) (by assumption) ?_
    | refine B8.kk (Kk.aw ?_)))):AW P N c Q ρ H:=(h ⟨hp⟩).h
theorem AQ.a (n:Nat) {p:Prop} (hp:p) (h:Ri p→EO n P N ops rest Kq ρ H:=by
 intro hp
 repeat (first
  | exact BI.z hp.h
  | exact B8.z hp.h
  | exact EO.z hp.h
  | (refine BI.pre ?_;first
    | refine BI.cc (AG.move (by rfl) (by rfl)) ?_
    | refine BI.nn (Kk.aw ?_)
    | refine BI.kk (by rfl) ?_
    | refine BI.cc (AG.ldA (by rfl) (by rfl) (by infer_instance) (by repeat (first|exact HS.h|apply HS.t)) (by repeat (first|exact Ja.h rfl rfl|apply L8.s rfl|apply L8.f|apply Ja.st|exact Ja.h rfl (by simp[AV.size])))) ?_
    | refine BI.cc (AG.assign (by rfl) (by rfl)) ?_
    | refine BI.cc (AG.int (by rfl) (by rfl) (by rfl) (by rfl)) ?_
    | refine BI.cc (AG.pickT (by rfl) (by first|exact rfl|exact bD (by assumption)|exact bD (decide_eq_true (by assumption))) (by rfl)) ?_
    | refine BI.cc (AG.pickF (by rfl) (by first|exact rfl|exact bD (by assumption)|exact bD (decide_eq_false (by assumption))|exact bD (eq_false_of_ne_true (by assumption))) (by rfl)) ?_
    | refine BI.cc (AG.extract (by rfl) (by rfl) (by rfl)) ?_
    | refine BI.cc (AG.not (by rfl) (by rfl)) ?_
    | refine BI.cc (AG.lrA (by rfl) (by rfl) (by infer_instance) (by first|rfl|simp[AV.size]) (by rfl)) ?_
    | refine BI.cc (AG.lenL (by rfl) (by rfl) (by rfl)) ?_
    | refine BI.cc (AG.lenOwn (by rfl) (by rfl) (by rfl)) ?_
    | refine BI.cc (AG.lenStr (by rfl) (by rfl) (by rfl)) ?_
    | refine BI.cc (AG.fldPtr (by rfl) (by rfl) (by rfl) (by rfl) (by rfl) _ (by first| (simp;rfl)|rfl)) ?_
    | refine BI.cc (AG.nilCheck (by rfl) (by rfl)) ?_
    | refine BI.cc (AG.idxL (by rfl) (by rfl) (by rfl) (by assumption) (by rfl) (by rfl)) ?_
    | refine BI.cc (AG.ioA (by rfl) (by rfl) (by rfl) (by repeat (first|exact HS.h|apply HS.t)) (by assumption) (by rfl) (by rfl)) ?_
    | refine BI.cc (AG.idxP (by rfl) (by rfl) (by rfl) (by assumption) (by rfl) (by rfl)) ?_
    | refine BI.cc (AG.idxS (by rfl) (by rfl) (by rfl) (by assumption) (by rfl)) ?_
    | refine BI.cc (AG.conv (by rfl) (by rfl) (by rfl) (by rfl)) ?_
    | refine BI.cc (AG.str (by rfl) (by rfl) (by rfl) (by rfl)) ?_)
  | (refine B8.pre ?_;first
    | refine B8.seq ?_
    | refine B8.block ?_
    | refine B8.reg ?_
    | refine B8.cP (by rfl) (by assumption) ?_
    | refine B8.cN (by rfl) (by assumption) ?_
    | refine B8.cT (by rfl) (by assumption) ?_
    | refine B8.cF (by rfl) (by assumption) ?_
    | refine B8.kk (Kk.aw ?_))
  | (refine EO.pre ?_;first
    | refine EO.cc (AG.move (by rfl) (by rfl)) ?_
    | refine EO.nn (Kk.aw ?_)
    | refine EO.kk (by rfl) ?_
    | refine EO.cc (AG.ldA (by rfl) (by rfl) (by infer_instance) (by repeat (first|exact HS.h|apply HS.t)) (by repeat (first|exact Ja.h rfl rfl|apply L8.s rfl|apply L8.f|apply Ja.st|exact Ja.h rfl (by simp[AV.size])))) ?_
    | refine EO.cc (AG.assign (by rfl) (by rfl)) ?_
    | refine EO.cc (AG.int (by rfl) (by rfl) (by rfl) (by rfl)) ?_
    | refine EO.cc (AG.pickT (by rfl) (by first|exact rfl|exact bD (by assumption)|exact bD (decide_eq_true (by assumption))) (by rfl)) ?_
    | refine EO.cc (AG.pickF (by rfl) (by first|exact rfl|exact bD (by assumption)|exact bD (decide_eq_false (by assumption))|exact bD (eq_false_of_ne_true (by assumption))) (by rfl)) ?_
    | refine EO.cc (AG.extract (by rfl) (by rfl) (by rfl)) ?_
    | refine EO.cc (AG.not (by rfl) (by rfl)) ?_
    | refine EO.cc (AG.lrA (by rfl) (by rfl) (by infer_instance) (by first|rfl|simp[AV.size]) (by rfl)) ?_
    | refine EO.cc (AG.lenL (by rfl) (by rfl) (by rfl)) ?_
    | refine EO.cc (AG.lenOwn (by rfl) (by rfl) (by rfl)) ?_
    | refine EO.cc (AG.lenStr (by rfl) (by rfl) (by rfl)) ?_
    | refine EO.cc (AG.fldPtr (by rfl) (by rfl) (by rfl) (by rfl) (by rfl) _ (by first| (simp;rfl)|rfl)) ?_
    | refine EO.cc (AG.nilCheck (by rfl) (by rfl)) ?_
    | refine EO.cc (AG.idxL (by rfl) (by rfl) (by rfl) (by assumption) (by rfl) (by rfl)) ?_
    | refine EO.cc (AG.ioA (by rfl) (by rfl) (by rfl) (by repeat (first|exact HS.h|apply HS.t)) (by assumption) (by rfl) (by rfl)) ?_
    | refine EO.cc (AG.idxP (by rfl) (by rfl) (by rfl) (by assumption) (by rfl) (by rfl)) ?_
    | refine EO.cc (AG.idxS (by rfl) (by rfl) (by rfl) (by assumption) (by rfl)) ?_
    | refine EO.cc (AG.conv (by rfl) (by rfl) (by rfl) (by rfl)) ?_
    | refine EO.cc (AG.str (by rfl) (by rfl) (by rfl) (by rfl)) ?_))):AQ P N ops rest Kq ρ H:=(h ⟨hp⟩).h
end
section
variable {P:Program} {N:Nat} {ops:Array Oper} {K:AZ→AN→Prop} {ρ ρ':AZ} {H H':AN} {x:AV}
theorem oi {p:Prop} [Decidable p] {α:Type} {a b r:α} (h:(if p then a else b)=r):(p∧a=r)∨(¬p∧b=r):=R6 h
theorem ob {α β:Type} {o:Option α} {f:α→Option β} {r:β} (h:o.bind f=some r):∃ a,o=some a∧f a=some r:=P6 h
inductive ET:List Nat→AN→AN→Prop
 | nil {A:AN}:ET [] A []
 | cons {i:Nat} {is:List Nat} {A B:AN} {y:Nat×EX}:A[i]? =some y→ET is A B→ET (i::is) A (y::B)
theorem ET.map {is:List Nat} {H H':AN} (h:ET is H H'):H'.map some=is.map fun i=>H[i]? :=by
 induction h with
 | nil=>rfl
 | cons h _ ih=>simp[ih,h]
theorem ET.lt {is:List Nat} {H H':AN} (h:ET is H H'):∀ i∈is,i<H.length:=by
 induction h with
 | nil=>intro i hi;cases hi
 | cons h _ ih=>
   intro i hi;rcases List.mem_cons.1 hi with e|e
   ·subst e;exact(List.getElem?_eq_some_iff.1 h).1
   ·exact ih i e
theorem ET.sub {is:List Nat} {H H':AN} (h:ET is H H') (hn:is.Nodup):BS H' H:=by
 let rest:=(List.range H.length).filter fun i=> !is.contains i
 refine⟨rest.filterMap fun i=>H[i]?,?_⟩;have e1:H'=is.filterMap fun i=>H[i]? :=by
  have h1:=h.map;clear hn rest
  induction h with
  | nil=>rfl
  | cons hh _ ih=>rw[List.filterMap_cons_some hh, ←ih];simp_all
 have e2:H=(List.range H.length).filterMap fun i=>H[i]? :=by
  apply List.ext_getElem?;intro i;clear rest h hn e1
  induction H generalizing i with
  | nil=>simp
  | cons a H ih=>
    rw[List.length_cons,List.range_succ_eq_map,List.filterMap_cons_some (by rfl:(a::H)[0]? =some a),List.filterMap_map]
    cases i with
    | zero=>rfl
    | succ i=>
      have e:((fun i:Nat=>(a::H)[i]?)∘Nat.succ)=fun i:Nat=>H[i]? :=by funext j;simp
      rw[e];simpa using ih i
 have hp:(is++rest).Perm (List.range H.length):=by
  refine(List.perm_ext_iff_of_nodup ?_ List.nodup_range).2 fun a=>?_
  ·refine List.nodup_append.2 ⟨hn,List.nodup_range.filter _,fun a ha b hb e=>?_⟩;subst e;have:=(List.mem_filter.1 hb).2;simp[ha]at this
  ·simp only[List.mem_append,List.mem_range];constructor
   ·rintro (ha|ha)
    ·exact h.lt a ha
    ·exact List.mem_range.1 (List.mem_filter.1 ha).1
   ·intro ha;by_cases c:a∈is
    ·exact .inl c
    ·exact .inr (List.mem_filter.2 ⟨List.mem_range.2 ha,by simp[c]⟩)
 have:=hp.filterMap fun i=>H[i]?
 rw[List.filterMap_append, ←e1, ←e2]at this;exact this
theorem AO.nS (ks is:List Nat) (hk:K ρ' H') (hs:A8 ks ρ ρ':=by repeat' (first|exact A8.nil|apply A8.cons rfl)) (hH:ET is H H':=by repeat' (first|exact ET.nil|apply ET.cons rfl)) (hn:is.Nodup:=by decide):AO P N ops [] K ρ H:=AO.nil hs.sub (hH.sub hn) hk
theorem AO.q (d:Nat) (hl:ρ.lookup d=some x:=by rfl) (hk:K [(d,x)] H:=by exact⟨⟨_,rfl,rfl⟩,BS.refl _⟩):AO P N ops [] K ρ H:=AO.nE hl hk
end
def nz (z:Nat):List AV→AV
 | []=>.fl (.slice none 0 0)
 | x::xs=>.fz z (x::xs)
theorem Ap {z:Nat} {l:List AV}:(nz z l).notTup=true:=by cases l<;>rfl
theorem IW {z:Nat} {l:List AV} (g:G) (v:Value) (h:V g (nz z l) v):V g (.fz z l) v:=by
 cases l with
 | nil=>exact Lp z g v h
 | cons x xs=>exact h
theorem Hb {z:Nat} {l:List AV} (hl:l≠[]) (g:G) (v:Value) (h:V g (.fz z l) v):V g (nz z l) v:=by
 cases l with
 | nil=>exact absurd rfl hl
 | cons x xs=>exact h
section
variable {P:Program} {o:Oper} {ρ:AZ} {H:AN}
theorem N9 {α:Type} {e:α→AV} {l:List α} {z:Nat} {g:G} {v:Value} (h:V g (nz z (l.map e)) v):∃ (A:Option Addr) (n c:Nat),v=.slice A n c∧(A.isNone=true↔l=[]):=by
 cases l with
 | nil=>exact⟨none,0,0,h,by simp⟩
 | cons x xs=>
   have h':AU g (.fz z (e x::xs.map e)) [v]:=h
   cases h' with
   | fz=>exact⟨_,_,_,rfl,by simp⟩
theorem AG.nzE {α:Type} [DecidableEq α] {e:α→AV} {l:List α} {T T' E:TypeId} {y:Operand} {z n c:Nat} (ho:o.op=.binOp .eql T y (.const (.slice none n c)) T') (hy:AZ.ev ρ y=some (nz z (l.map e))) (ht:P.underlying T=some (.slice E)):AG P o ρ H (.fl (.bool (decide (l=[])))):=
 AG.of_flat fun g a s w=>by
  obtain⟨A,n',c',e2,e3⟩:=N9 (s.ev hy);have e4:a.eval (.const (.slice none n c))=.slice none n c:=rfl;have e5:∀ m,(Op.equalIn (m+1) T (.slice A n' c') (.slice none n c)).run P w=.ok A.isNone w:=by
   intro m;cases A<;>simp[Op.equalIn,run_underlying ht]
  have e6:A.isNone=decide (l=[]):=by rw[Bool.eq_iff_iff,e3];simp
  simp[execOp,ho,e2,e4,eqGuard,binOp,Op.equal,Op.maxDepth,e5 9999,e6]
theorem AG.nzN {α:Type} [DecidableEq α] {e:α→AV} {l:List α} {T T' E:TypeId} {y:Operand} {z n c:Nat} (ho:o.op=.binOp .neq T y (.const (.slice none n c)) T') (hy:AZ.ev ρ y=some (nz z (l.map e))) (ht:P.underlying T=some (.slice E)):AG P o ρ H (.fl (.bool (decide (l≠[])))):=
 AG.of_flat fun g a s w=>by
  obtain⟨A,n',c',e2,e3⟩:=N9 (s.ev hy);have e4:a.eval (.const (.slice none n c))=.slice none n c:=rfl;have e5:∀ m,(Op.equalIn (m+1) T (.slice A n' c') (.slice none n c)).run P w=.ok A.isNone w:=by
   intro m;cases A<;>simp[Op.equalIn,run_underlying ht]
  have e6:(!A.isNone)=decide (l≠[]):=by rw[Bool.eq_iff_iff,decide_eq_true_iff];cases A<;>simp_all
  simp[execOp,ho,e2,e4,eqGuard,binOp,Op.equal,Op.maxDepth,e5 9999];simpa using e6
theorem AG.lenNz {α:Type} {e:α→AV} {l:List α} {T E:TypeId} {y:Operand} {z:Nat} (ho:o.op=.call {callee:=.builtin .len,args:= #[y],argTypes:= #[T]}) (hy:AZ.ev ρ y=some (nz z (l.map e))) (ht:P.underlying T=some (.slice E)):AG P o ρ H (.fl (.int .i64 (l.length:Int))):=
 AG.of_flat fun g a s' w=>by
  cases l with
  | nil=>
    have e1:a.eval y=.slice none 0 0:=s'.ev hy;simp[execOp,ho,e1,resolve,invoke,builtin,Builtin.len_,run_underlying ht,goInt]
  | cons x xs=>
    have e1:AU g (.fz z (e x::xs.map e)) [a.eval y]:=s'.ev hy;generalize hv:a.eval y=v at e1;cases e1<;>simp[execOp,ho,hv,resolve,invoke,builtin,Builtin.len_,run_underlying ht,goInt]
end
end Go.Avl
