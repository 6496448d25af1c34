/- Parts: Av32. -/
import Derived.Test.YtpkgpmmcbpfenaaGreatAv3
namespace Go.Avl
open Go Go.RowKit
set_option linter.unusedVariables false
def KD (ns:Nat→Nat) (i m:Nat):Nat→Nat:=fun j=>if j=i then m else ns j
section
variable {α:Type}
def Av (ns:Nat→Nat) (k:Nat):List (List α)→List AV
 | []=>[]
 | r::x=>.own (ns k) 0 r.length::Av ns (k+1) x
def Bk (z:Nat) (e:α→AV) (ns:Nat→Nat) (k:Nat):List (List α)→Aa
 | []=>[]
 | r::x=>(ns k,.mem (.ar z (r.map e)))::Bk z e ns (k+1) x
theorem II (ns:Nat→Nat):∀ (x:List (List α)) (k:Nat),(Av ns k x).length=x.length
 | [],_=>rfl
 | r::x,k=>by rw[Av,List.length_cons,List.length_cons,II ns x]
theorem JO (z:Nat) (e:α→AV) (ns:Nat→Nat):∀ (x:List (List α)) (k:Nat),(Bk z e ns k x).length=x.length
 | [],_=>rfl
 | r::x,k=>by rw[Bk,List.length_cons,List.length_cons,JO z e ns x]
theorem Kl (ns:Nat→Nat):∀ (x:List (List α)) (k i:Nat) (r:List α),x[i]? =some r→(Av ns k x)[i]? =some (.own (ns (k+i)) 0 r.length)
 | [],_,_,_,h=>by simp at h
 | a::x,k,0,r,h=>by simp at h;subst h;rfl
 | a::x,k,i+1,r,h=>by
   have:=Kl ns x (k+1) i r (by simpa using h);rw[show k+(i+1)=k+1+i by omega, ←this];rfl
theorem M7 (z:Nat) (e:α→AV) (ns:Nat→Nat):∀ (x:List (List α)) (k i:Nat) (r:List α),x[i]? =some r→(Bk z e ns k x)[i]? =some (ns (k+i),.mem (.ar z (r.map e)))
 | [],_,_,_,h=>by simp at h
 | a::x,k,0,r,h=>by simp at h;subst h;rfl
 | a::x,k,i+1,r,h=>by
   have:=M7 z e ns x (k+1) i r (by simpa using h);rw[show k+(i+1)=k+1+i by omega, ←this];rfl
theorem Kp (ns:Nat→Nat):∀ (x:List (List α)) (k i:Nat) (r r':List α),x[i]? =some r→r'.length=r.length→Av ns k (x.set i r')=Av ns k x
 | [],_,_,_,_,h,_=>by simp at h
 | a::x,k,0,r,r',h,e=>by simp at h;subst h;show AV.own _ _ _::_=_;rw[e];rfl
 | a::x,k,i+1,r,r',h,e=>by
   have:=Kp ns x (k+1) i r r' (by simpa using h) e;show AV.own _ _ _::Av ns (k+1) (x.set i r')=_;rw[this];rfl
theorem Ob (z:Nat) (e:α→AV) (ns:Nat→Nat):∀ (x:List (List α)) (k i:Nat) (r':List α),i<x.length→(Bk z e ns k x).set i (ns (k+i),.mem (.ar z (r'.map e)))=Bk z e ns k (x.set i r')
 | [],_,_,_,h=>by simp at h
 | a::x,k,0,r',_=>rfl
 | a::x,k,i+1,r',h=>by
   have:=Ob z e ns x (k+1) i r' (by simpa using h);show _::(Bk z e ns (k+1) x).set i _=_::Bk z e ns (k+1) (x.set i r');rw[←this,show k+(i+1)=k+1+i by omega]
theorem LR (ns ns':Nat→Nat) (m:Nat) (r:List α):∀ (x:List (List α)) (k:Nat),(∀ j,k≤j→j<k+x.length→ns' j=ns j)→ns' (k+x.length)=m→Av ns' k (x++[r])=Av ns k x++[.own m 0 r.length]
 | [],k,_,h=>by show [AV.own (ns' k) 0 r.length]=_;rw[show ns' k=m from h];rfl
 | a::x,k,h,h2=>by
   have:=LR ns ns' m r x (k+1) (fun j h1 h3=>h j (by omega) (by simp;omega)) (by rw[←h2];congr 1;simp;omega);show AV.own (ns' k) 0 a.length::Av ns' (k+1) (x++[r])=_;rw[this,h k (by omega) (by simp)];rfl
theorem Nd (z:Nat) (e:α→AV) (ns ns':Nat→Nat) (m:Nat) (r:List α):∀ (x:List (List α)) (k:Nat),(∀ j,k≤j→j<k+x.length→ns' j=ns j)→ns' (k+x.length)=m→Bk z e ns' k (x++[r])=Bk z e ns k x++[(m,.mem (.ar z (r.map e)))]
 | [],k,_,h=>by show [(ns' k,El.mem (.ar z (r.map e)))]=_;rw[show ns' k=m from h];rfl
 | a::x,k,h,h2=>by
   have:=Nd z e ns ns' m r x (k+1) (fun j h1 h3=>h j (by omega) (by simp;omega)) (by rw[←h2];congr 1;simp;omega);show (ns' k,El.mem (.ar z (a.map e)))::Bk z e ns' (k+1) (x++[r])=_;rw[this,h k (by omega) (by simp)];rfl
theorem Dh [Inhabited α] {x:List α} {i:Int} (h:0≤i∧i<(x.length:Int)):x[i.toNat]? =some (AA x i):=by
 have hl:i.toNat<x.length:=by omega
 unfold AA;rw[List.getD,List.getElem?_eq_getElem hl];rfl
theorem At.ownF {ns:Nat→Nat} {x:List (List α)} {z:Nat} {i:Int} (h:0≤i∧i<(x.length:Int)):At (.ar z (Av ns 0 x)) (i.toNat*z+0) (.own (ns i.toNat) 0 (AA x i).length):=by
 have:=Kl ns x 0 i.toNat _ (Dh h);rw[Nat.zero_add]at this;exact At.idx _ this At.here
theorem Kv {z:Nat} {e:α→AV} {ns:Nat→Nat} {x:List (List α)} {T:Aa} {i:Int} (h:0≤i∧i<(x.length:Int)):(Bk z e ns 0 x++T)[i.toNat]? =some (ns i.toNat,.mem (.ar z ((AA x i).map e))):=by
 have:=M7 z e ns x 0 i.toNat _ (Dh h);rw[Nat.zero_add]at this;rw[List.getElem?_append_left (by rw[JO];omega)];exact this
theorem DK {H:Aa} {a y:Nat×El} {k:Nat} (h:H[k]? =some y):(a::H)[k+1]? =some y:=by simpa using h
theorem YU {z:Nat} {e:α→AV} {ns:Nat→Nat} {x:List (List α)} {T:Aa} {i:Int} {r:List α} (h:0≤i∧i<(x.length:Int)):(Bk z e ns 0 x++T).set i.toNat (ns i.toNat,.mem (.ar z (r.map e)))=Bk z e ns 0 (AU x i r)++T:=by
 have:=Ob z e ns x 0 i.toNat r (by omega);rw[Nat.zero_add]at this;rw[List.set_append,if_pos (by rw[JO];omega),this];rfl
theorem XQ {ns:Nat→Nat} {x:List (List α)} {i:Int} {r:List α} (h:0≤i∧i<(x.length:Int)) (hr:r.length=(AA x i).length):Av ns 0 (AU x i r)=Av ns 0 x:=Kp ns x 0 i.toNat _ r (Dh h) hr
theorem Q2 {ns:Nat→Nat} {i m j:Nat} (h:j<i):KD ns i m j=ns j:=by unfold KD;rw[if_neg (by omega)]
theorem QC {ns:Nat→Nat} {i m:Nat}:KD ns i m i=m:=by unfold KD;rw[if_pos rfl]
theorem V2 (ns:Nat→Nat) (x:List (List α)) (m:Nat) (r:List α):Av ns 0 x++[.own m 0 r.length]=Av (KD ns x.length m) 0 (x++[r]):=
 (LR ns _ m r x 0 (fun j _ h=>Q2 (by omega)) (by rw[Nat.zero_add];exact QC)).symm
theorem XU (z:Nat) (e:α→AV) (ns:Nat→Nat) (x:List (List α)) (m:Nat) (r:List α) (T:Aa):Bd (Bk z e (KD ns x.length m) 0 (x++[r])++T) ((m,.mem (.ar z (r.map e)))::(Bk z e ns 0 x++T)):=by
 rw[Nd z e ns _ m r x 0 (fun j _ h=>Q2 (by omega)) (by rw[Nat.zero_add];exact QC),List.append_assoc];exact⟨[],by rw[List.append_nil];exact List.perm_middle⟩
end
section
variable {P:Program} {N:Nat} {ops:Array Oper} {o:Oper} {rest:List Oper} {K:Af→Aa→Prop} {ρ:Af} {H:Aa} {x:AV} {c:Code} {Q:Exit→Af→Aa→Prop} {α:Type}
theorem AW.heq (H':Aa) (e:H=H') (h:AW P N c Q ρ H'):AW P N c Q ρ H:=by rw[e];exact h
theorem AW.famFz {z y n:Nat} {e:α→AV} {ns:Nat→Nat} {T:Aa}:∀ (x done:List (List α)) (k:Nat),k=done.length→
 AW P N c Q ρ ((n,.mem (.ar y ((done++x).map fun r=>AV.fz z (r.map e))))::T)→AW P N c Q ρ ((n,.mem (.ar y ((done.map fun r=>AV.fz z (r.map e))++Av ns k x)))::(Bk z e ns k x++T))
 | [],done,k,hk,h=>by
   rw[List.append_nil]at h;show AW P N c Q ρ ((n,.mem (.ar y (_++[])))::T);rw[List.append_nil];exact h
 | r::x,done,k,hk,h=>by
   have ih:=AW.famFz (z:=z) (y:=y) (n:=n) (e:=e) (ns:=ns) (T:=T) x (done++[r]) (k+1) (by simp[hk]) (by rw[List.append_assoc];exact h);rw[List.map_append,List.append_assoc]at ih;have hp:F3 (.ar y ((done.map fun r=>AV.fz z (r.map e))++AV.own (ns k) 0 r.length::Av ns (k+1) x)) (k*y+0) (.own (ns k) 0 r.length) (.fz z (r.map e)) (.ar y (((done.map fun r=>AV.fz z (r.map e))++AV.own (ns k) 0 r.length::Av ns (k+1) x).set k (.fz z (r.map e)))):=
    F3.idx k (by rw[List.getElem?_append_right (by simp[hk])];simp[hk]) F3.here
   have e2:((done.map fun r=>AV.fz z (r.map e))++AV.own (ns k) 0 r.length::Av ns (k+1) x).set k (.fz z (r.map e))=(done.map fun r=>AV.fz z (r.map e))++AV.fz z (r.map e)::Av ns (k+1) x:=by
    rw[List.set_append,if_neg (by simp[hk])];simp[hk]
   rw[e2]at hp;exact AW.freezeFld (X':=.ar y ((done.map fun r=>AV.fz z (r.map e))++AV.fz z (r.map e)::Av ns (k+1) x)) 1 0 rfl rfl hp (by simp) (by rw[Be]) rfl (by simp[AV.capn,Av]) (by decide) ih
theorem AW.famFz0 {z y n:Nat} {e:α→AV} {ns:Nat→Nat} {T:Aa} {x:List (List α)} (h:AW P N c Q ρ ((n,.mem (.ar y (x.map fun r=>AV.fz z (r.map e))))::T)):AW P N c Q ρ ((n,.mem (.ar y (Av ns 0 x)))::(Bk z e ns 0 x++T)):=AW.famFz x [] 0 rfl h
end
theorem TU {a:Nat×El} {A B:Aa} (h:A=B):a::A=a::B:=by rw[h]
section
variable {P:Program} {N:Nat} {ops:Array Oper} {o:Oper} {rest:List Oper} {K:Af→Aa→Prop} {ρ:Af} {H:Aa}
theorem AH.idxF {α:Type} {ns:Nat→Nat} {x:List (List α)} {T E:TypeId} {y iy:Operand} {z n:Nat} {k:IntKind} {i:Int} (j:Nat) (ho:o.op=.indexAddr T y iy) (hy:Af.ev ρ y=some (.own n 0 x.length)) (hiy:Af.ev ρ iy=some (.fl (.int k i)))
 (hH:H[j]? =some (n,.mem (.ar z (Av ns 0 x)))) (h:0≤i∧i<(x.length:Int)) (ht:P.underlying T=some (.slice E)) (hz:Ah P E=some z):AH P o ρ H (.ptr n (i.toNat*z+0)):=by
 have:=AH.idxOwn (H:=H) j ho hy hiy hH h.1 h.2 ht hz;simpa using this
theorem AO.appendF {α:Type} {ns:Nat→Nat} {x:List (List α)} {m n0:Nat} {r:List α} {T U E E':TypeId} {s y:Operand} {by' n:Nat} {zl:List Value} (i j:Nat) (d:Nat) (hd:o.dst=some d) (hN:d<N) (hg:o.guard=none)
 (ho:o.op=.call {callee:=.builtin .append,args:= #[s,y],argTypes:= #[T,U]}) (hs:Af.ev ρ s=some (.own n 0 x.length)) (hy:Af.ev ρ y=some (.own n0 0 1)) (hi:H[i]? =some (n,.mem (.ar 1 (Av ns 0 x)))) (hj:H[j]? =some (n0,.mem (.ar 1 [.own m 0 r.length])))
 (ht:P.underlying T=some (.slice E)) (hu:P.underlying U=some (.slice E')) (hz:Ah P E=some 1) (hby:BF P E=some by') (hzero:A2 P E=some zl) (hzl:zl.length=1)
 (hbound:(x++[r]).length*by'≤140737488355328) (hpos:1≤by')
 (h:∀ n',AO P N ops rest K ((d,.own n' 0 (x++[r]).length)::ρ) (H.set i (n',.mem (.ar 1 (Av (KD ns x.length m) 0 (x++[r])))))):AO P N ops (o::rest) K ρ H:=by
 have e1:((Av ns 0 x).drop 0).take x.length=Av ns 0 x:=by rw[List.drop_zero];exact List.take_of_length_le (by rw[II];exact Nat.le_refl _)
 refine AO.append (off:=0) (len:=x.length) (els:=Av ns 0 x) (ys:=[.own m 0 r.length]) i (Av (KD ns x.length m) 0 (x++[r])) (x++[r]).length hg d hd hN ho hs hy hi ?_ (by rw[II];simp) ht hu hz hby hzero hzl (by simpa using hbound) (by
  have:=Nat.le_mul_of_pos_right (x++[r]).length (show 0<by' by omega)
  simp at this hbound⊢;omega) (by rw[e1];exact V2 ns x m r) (by simp) h
 exact CS.own (off:=0) (len:=1) j hj (by simp)
end
end Go.Avl
