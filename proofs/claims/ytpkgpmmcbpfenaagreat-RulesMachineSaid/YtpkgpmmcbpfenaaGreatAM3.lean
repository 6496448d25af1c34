/- Parts: T8E5, T8E6, T8D0, T8EB, T8ED, T8D1, T8EF, T8EE, T8K1, T8D2, T8D3, T8D4. -/
import Derived.Test.YtpkgpmmcbpfenaaGreatAM2
import Derived.Test.YtpkgpmmcbpfenaaGreatAF7
import Derived.Test.YtpkgpmmcbpfenaaGreatAF2
import Derived.Test.YtpkgpmmcbpfenaaGreatAF1
import Derived.Test.YtpkgpmmcbpfenaaGreatAM1
import Derived.Test.YtpkgpmmcbpfenaaGreatAF4
import Derived.Test.YtpkgpmmcbpfenaaGreatAF8
import Derived.Test.YtpkgpmmcbpfenaaGreatAF6
import Derived.Test.YtpkgpmmcbpfenaaGreatAF5
namespace Go.Avl.T8
open Go Go.RowKit Go.Proofs Go.Avl
set_option linter.all false
set_option maxRecDepth 10000
def RE (s:ByteArray) (a d:Nat) (o:Option (List AE×Bool×Ai)) (w:Option (List AE×Int)):Prop:=
 ∃ (l:List AE) (ok:Bool) (a':Nat),o=some (l,ok,Ai.mk s (a':Int) (d:Int))∧a≤a'∧a'≤s.size∧l.length≤2*(a'-a)+1∧
  (ok=true→a<a'∧l.length+1≤2*(a'-a)∧w=some (l,(a':Int))∧∃ t,HC t∧l=Ac t)∧(ok=false→∃ z,w=some ([],z))
theorem RE.no {s:ByteArray} {a a' d:Nat} {z:Int} {l:List AE} (h:a≤a') (h2:a'≤s.size) (hl:l.length≤2*(a'-a)+1):RE s a d (some (l,false,Ai.mk s (a':Int) (d:Int))) (some ([],z)):=
 ⟨l,false,a',rfl,h,h2,hl,(fun q=>by cases q),fun _=>⟨z,rfl⟩⟩
theorem Gz {t:Rx}:Ac t≠[]:=fun e=>by have:=Bp t;rw[e]at this;simp at this
theorem Wg {s:ByteArray} (hz:s.size≤90) {self:Ai→Option (List AE×Bool×Ai)} {self':ByteArray→Int→Int→Option (List AE×Int)} {a0 d:Nat} (hs:∀ a,a0≤a→a≤s.size→RE s a d (self (Ai.mk s (a:Int) (d:Int))) (self' s (a:Int) (d:Int))):
 ∀ (m a f1 f2:Nat) (t:Rx),s.size-a+1≤m→m+1≤f1→m≤f2→a0<a→a≤s.size→HC t→(Ac t).length+1≤2*(a-a0)→
 RE s a0 d (CF 20000 self f1 s (a:Int) (d:Int) (Ac t) true) (Cw 20000 self' s (d:Int) f2 (a:Int) (Ac t))
 | 0,_,_,_,_,h,_,_,_,_,_,_=>by omega
 | m+1,a,f1,f2,t,hm,hf1,hf2,h0,ha,ht,hl=>by
   obtain⟨f1,rfl⟩:∃ q,f1=q+1:=⟨f1-1,by omega⟩;obtain⟨f2,rfl⟩:∃ q,f2=q+1:=⟨f2-1,by omega⟩;rw[CF.eq_2,Cw.eq_2,if_pos rfl,JH s a _ _ (by decide),Option.bind_some,Option.bind_some,if_pos Gz];have fin:RE s a0 d (Id 20000 (Ac t) true s (a:Int) (d:Int)) (Iy 20000 (a:Int) (Ac t)):=
    ⟨Ac t,true,a,rfl,by omega,ha,by omega,fun _=>⟨h0,hl,rfl,t,ht,rfl⟩,fun q=>by cases q⟩
   by_cases q:a<s.size
   ·rw[if_pos (show (a:Int)<(s.size:Int)by omega),if_pos (show 0≤(a:Int)∧(a:Int)<(s.size:Int)from⟨by omega,by omega⟩),LH _ (by decide),Option.bind_some,Option.bind_some,decide_eq_false (show ¬ s.size≤a by omega),Bool.false_or]
    cases hb:PD (ByteArray.mk #[124,41]) (AF s (a:Int))with
    | true=>rw[if_neg (by simp),if_neg (by simp)];exact fin
    | false=>
      rw[if_pos (show (!false)=true from rfl),if_pos (show (!false)=true from rfl)];obtain⟨l2,ok2,a2,e,c1,c2,c3,c4,c5⟩:=hs a (by omega) ha;rw[e,Option.bind_some,Wr (.inl rfl) (by omega) (show l2.length≤100000 by omega),Option.bind_some]
      cases ok2 with
      | false=>
        obtain⟨z,hw⟩:=c5 rfl;rw[hw,Option.bind_some,if_pos rfl];obtain⟨f1,rfl⟩:∃ q,f1=q+1:=⟨f1-1,by omega⟩;show RE s a0 d (CF 20000 self (f1+1) s (a2:Int) (d:Int) (Ac t++l2++[bC 2]) false) _;rw[CF.eq_2,if_neg (by simp),Option.bind_some,if_neg (by simp)];exact RE.no (by omega) c2 (by simp;omega)
      | true=>
        obtain⟨k1,k2,hw,t2,ht2,rfl⟩:=c4 rfl;have z1:(([]:List AE)++Ac t).length*40≤140737488355328:=by simp;omega
        have z2:((([]:List AE)++Ac t)++Ac t2).length*40≤140737488355328:=by simp;omega
        have z3:(((([]:List AE)++Ac t)++Ac t2)++([AE.mk 2 (Vector.replicate 4 0)]:List AE)).length*40≤140737488355328:=by simp;omega
        rw[hw,Option.bind_some,if_neg Gz,if_pos z1,if_pos z2,if_pos z3,List.nil_append];exact Wg hz hs m a2 f1 f2 (.cat t t2) (by omega) (by omega) (by omega) (by omega) c2 ⟨ht,ht2⟩ (by simp[Ac];omega)
   ·rw[if_neg (show ¬ (a:Int)<(s.size:Int)by omega),Option.bind_some,if_neg (by simp;intro h;omega),if_neg (by simp)];exact fin
theorem WW {s:ByteArray} (hz:s.size≤90) {self:Ai→Option (List AE×Bool×Ai)} {self':ByteArray→Int→Int→Option (List AE×Int)} {a0 d:Nat} (hs:∀ a,a0≤a→a≤s.size→RE s a d (self (Ai.mk s (a:Int) (d:Int))) (self' s (a:Int) (d:Int))):
 ∀ (m a f1 f2:Nat) (t:Rx),s.size-a+1≤m→m+1≤f1→m≤f2→a0<a→a≤s.size→HC t→(Ac t).length+1≤2*(a-a0)→
 RE s a0 d (CE 20000 self f1 s (a:Int) (d:Int) (Ac t) true) (Cv 20000 self' s (d:Int) f2 (a:Int) (Ac t))
 | 0,_,_,_,_,h,_,_,_,_,_,_=>by omega
 | m+1,a,f1,f2,t,hm,hf1,hf2,h0,ha,ht,hl=>by
   obtain⟨f1,rfl⟩:∃ q,f1=q+1:=⟨f1-1,by omega⟩;obtain⟨f2,rfl⟩:∃ q,f2=q+1:=⟨f2-1,by omega⟩;rw[CE.eq_2,Cv.eq_2,if_pos rfl,if_pos Gz];have fin:RE s a0 d (Ic 20000 (Ac t) true s (a:Int) (d:Int)) (Iu 20000 (a:Int) (Ac t)):=
    ⟨Ac t,true,a,rfl,by omega,ha,by omega,fun _=>⟨h0,hl,rfl,t,ht,rfl⟩,fun q=>by cases q⟩
   by_cases q:a<s.size∧AF s (a:Int)=124
   ·have qa:=q.1;rw[Fp (by omega) q,Option.bind_some,Option.bind_some,if_pos (show (a:Int)<(s.size:Int)by omega),if_pos (show 0≤(a:Int)∧(a:Int)<(s.size:Int)from⟨by omega,by omega⟩),Option.bind_some,decide_eq_true q.2];show RE s a0 d (if true=true then(self (Ai.mk s ((a+1:Nat):Int) (d:Int))).bind _ else _) (if true=true then(self' s (AG ((a:Int)+1)) (d:Int)).bind _ else _);have e1:AG ((a:Int)+1)=((a+1:Nat):Int):=by rw[CP (by omega) (by omega)];rfl
    rw[if_pos rfl,if_pos rfl,e1];obtain⟨l2,ok2,a2,e,c1,c2,c3,c4,c5⟩:=hs (a+1) (by omega) (by omega);rw[e,Option.bind_some,Wr (.inr rfl) (by omega) (show l2.length≤100000 by omega),Option.bind_some]
    cases ok2 with
    | false=>
      obtain⟨z,hw⟩:=c5 rfl;rw[hw,Option.bind_some,if_pos rfl];obtain⟨f1,rfl⟩:∃ q,f1=q+1:=⟨f1-1,by omega⟩;show RE s a0 d (CE 20000 self (f1+1) s (a2:Int) (d:Int) (Ac t++l2++[bC 3]) false) _;rw[CE.eq_2,if_neg (by simp),Option.bind_some];exact RE.no (by omega) c2 (by simp;omega)
    | true=>
      obtain⟨k1,k2,hw,t2,ht2,rfl⟩:=c4 rfl;have z1:(([]:List AE)++Ac t).length*40≤140737488355328:=by simp;omega
      have z2:((([]:List AE)++Ac t)++Ac t2).length*40≤140737488355328:=by simp;omega
      have z3:(((([]:List AE)++Ac t)++Ac t2)++([AE.mk 3 (Vector.replicate 4 0)]:List AE)).length*40≤140737488355328:=by simp;omega
      rw[hw,Option.bind_some,if_neg Gz,if_pos z1,if_pos z2,if_pos z3,List.nil_append];exact WW hz hs m a2 f1 f2 (.alt t t2) (by omega) (by omega) (by omega) (by omega) c2 ⟨ht,ht2⟩ (by simp[Ac];omega)
   ·rw[Dk (by omega) q,Option.bind_some,Option.bind_some];have e1:(if(a:Int)<(s.size:Int)then if 0≤(a:Int)∧(a:Int)<(s.size:Int)then some (decide (AF s (a:Int)=124))else none else some false)=some false:=by
     by_cases k:a<s.size
     ·rw[if_pos (by omega),if_pos ⟨by omega,by omega⟩,decide_eq_false (fun h=>q ⟨k,h⟩)]
     ·rw[if_neg (by omega)]
    rw[e1,Option.bind_some,if_neg (by simp)];exact fin
theorem cu (c:Int):PD (ByteArray.mk #[42,43,63]) c=decide (c=42∨c=43∨c=63):=by
 unfold PD Hk;have e0:AF (ByteArray.mk #[42,43,63]) 0=42:=rfl;have e1:AF (ByteArray.mk #[42,43,63]) 1=43:=rfl;have e2:AF (ByteArray.mk #[42,43,63]) 2=63:=rfl;have w0:AG ((0:Int)+1)=1:=rfl;have w1:AG ((1:Int)+1)=2:=rfl;have w2:AG ((2:Int)+1)=3:=rfl;rw[show (20000:Nat)=19996+1+1+1+1 from rfl,Bg.eq_2,if_pos (by decide),if_pos (by decide),e0,w0];by_cases a:(42:Int)=c
 ·subst a;rfl
 rw[if_neg a,Bg.eq_2,if_pos (by decide),if_pos (by decide),e1,w1];by_cases b:(43:Int)=c
 ·subst b;rfl
 rw[if_neg b,Bg.eq_2,if_pos (by decide),if_pos (by decide),e2,w2];by_cases d:(63:Int)=c
 ·subst d;rfl
 rw[if_neg d,Bg.eq_2,if_neg (by decide),decide_eq_false (by omega)];rfl
theorem XA {s:ByteArray} (hz:s.size≤90) (t2:List AE×Bool×Ai) (ht2:t2.2.1=true) {a0 d:Nat}:∀ (m a f1 f2:Nat) (t:Rx),s.size-a<m→m≤f1→m≤f2→a0<a→a≤s.size→HC t→(Ac t).length+1≤2*(a-a0)→
 RE s a0 d (B1 20000 t2 f1 s (a:Int) (d:Int) (Ac t)) (CD 20000 s f2 (a:Int) (Ac t))
 | 0,_,_,_,_,h,_,_,_,_,_,_=>by omega
 | m+1,a,f1,f2,t,hm,hf1,hf2,h0,ha,ht,hl=>by
   obtain⟨f1,rfl⟩:∃ q,f1=q+1:=⟨f1-1,by omega⟩;obtain⟨f2,rfl⟩:∃ q,f2=q+1:=⟨f2-1,by omega⟩;have go:∀ k:Int,k=4∨k=5∨k=6→a<s.size→RE s a0 d ((R7 20000 k [Ac t]).bind fun t18=>B1 20000 t2 f1 s ((a+1:Nat):Int) (d:Int) t18) (GV 20000 (CD 20000 s f2) (a:Int) (Ac t) k):=by
    intro k hk hlt;have z1:(([]:List AE)++Ac t).length*40≤140737488355328:=by simp;omega
    have z2:((([]:List AE)++Ac t)++([AE.mk k (Vector.replicate 4 0)]:List AE)).length*40≤140737488355328:=by simp;omega
    have e1:AG ((a:Int)+1)=((a+1:Nat):Int):=by rw[CP (by omega) (by omega)];rfl
    unfold GV;rw[Zq hk (by omega),Option.bind_some,if_pos z1,if_pos z2,e1,List.nil_append];exact XA hz t2 ht2 m (a+1) f1 f2 (.un k t) (by omega) (by omega) (by omega) (by omega) (by omega) ⟨by omega,by omega,ht⟩ (by simp[Ac];omega)
   rw[B1.eq_2,CD.eq_2,if_pos ht2,if_pos Gz];by_cases q:a<s.size
   ·rw[if_pos (show (a:Int)<(s.size:Int)by omega),if_pos (show 0≤(a:Int)∧(a:Int)<(s.size:Int)from⟨by omega,by omega⟩),LH _ (by decide),Option.bind_some,Option.bind_some,cu];by_cases c1:AF s (a:Int)=42
    ·rw[Fp (by omega) ⟨q,c1⟩,Option.bind_some,if_pos rfl,decide_eq_true (by omega),if_pos rfl,if_pos ⟨by omega,by omega⟩,if_neg (by omega)];unfold Fi;rw[if_pos ⟨by omega,by omega⟩,if_neg (by omega)];exact go 4 (.inl rfl) q
    ·rw[Dk (by omega) (fun h=>c1 h.2),Option.bind_some,if_neg (by simp)];by_cases c2:AF s (a:Int)=43
     ·rw[Fp (by omega) ⟨q,c2⟩,Option.bind_some,if_pos rfl,decide_eq_true (by omega),if_pos rfl,if_pos ⟨by omega,by omega⟩,if_pos c2];unfold Fi;rw[if_pos ⟨by omega,by omega⟩,if_neg (by omega)];exact go 5 (.inr (.inl rfl)) q
     ·rw[Dk (by omega) (fun h=>c2 h.2),Option.bind_some,if_neg (by simp)];by_cases c3:AF s (a:Int)=63
      ·rw[Fp (by omega) ⟨q,c3⟩,Option.bind_some,if_pos rfl,decide_eq_true (by omega),if_pos rfl,if_pos ⟨by omega,by omega⟩,if_neg c2];unfold Fi;rw[if_pos ⟨by omega,by omega⟩,if_pos c3];exact go 6 (.inr (.inr rfl)) q
      ·rw[Dk (by omega) (fun h=>c3 h.2),Option.bind_some,if_neg (by simp),decide_eq_false (by omega),if_neg (by simp)];exact⟨Ac t,true,a,rfl,by omega,ha,by omega,fun _=>⟨h0,hl,rfl,t,ht,rfl⟩,fun q=>by cases q⟩
   ·rw[if_neg (show ¬ (a:Int)<(s.size:Int)by omega),Option.bind_some,if_neg (by simp),Dk (by omega) (fun h=>q h.1),Option.bind_some,if_neg (by simp),Dk (by omega) (fun h=>q h.1),Option.bind_some,if_neg (by simp),Dk (by omega) (fun h=>q h.1),Option.bind_some,if_neg (by simp)];exact⟨Ac t,true,a,rfl,by omega,ha,by omega,fun _=>⟨h0,hl,rfl,t,ht,rfl⟩,fun q=>by cases q⟩
theorem bF {s:ByteArray} {a:Nat} (h:a<s.size):0≤(a:Int)∧(a:Int)<(s.size:Int):=⟨by omega,by omega⟩
theorem Kx {s:ByteArray} (hz:s.size≤90):∀ j:Nat,
 (∀ a d:Nat,a≤s.size→d≤a→4*(s.size-a)+1≤j→RE s a d (EO 20000 j (Ai.mk s (a:Int) (d:Int))) (Ep 20000 j s (a:Int) (d:Int)))∧
 (∀ a d:Nat,a≤s.size→d≤a→4*(s.size-a)+2≤j→RE s a d (Dw 20000 j (Ai.mk s (a:Int) (d:Int))) (Dz 20000 j s (a:Int) (d:Int)))∧
 (∀ a d:Nat,a≤s.size→d≤a→4*(s.size-a)+3≤j→RE s a d (D8 20000 j (Ai.mk s (a:Int) (d:Int))) (Du 20000 j s (a:Int) (d:Int)))∧
 (∀ a d:Nat,a≤s.size→d≤a→4*(s.size-a)+4≤j→RE s a d (DD 20000 j (Ai.mk s (a:Int) (d:Int))) (D7 20000 j s (a:Int) (d:Int)))
 | 0=>⟨fun a d _ _ h=>by omega,fun a d _ _ h=>by omega,fun a d _ _ h=>by omega,fun a d _ _ h=>by omega⟩
 | j+1=>by
   obtain⟨i1,i2,i3,i4⟩:=Kx hz j;refine⟨fun a d ha hd hj=>?_,fun a d ha hd hj=>?_,fun a d ha hd hj=>?_,fun a d ha hd hj=>?_⟩
   ·rw[EO.eq_2,Ep.eq_2,JH s a _ _ (by decide),Option.bind_some];by_cases q:a<s.size
    ·have g:=bF q;rw[if_neg (show ¬ (s.size:Int)≤(a:Int)by omega),if_pos g,LH _ (by decide),Option.bind_some,Option.bind_some,decide_eq_false (show ¬ s.size≤a by omega),Bool.false_or]
     cases hb:PD (ByteArray.mk #[124,41,42,43,63,93,47,34]) (AF s (a:Int))with
     | true=>rw[if_pos rfl,if_pos rfl];exact RE.no (Nat.le_refl _) ha (by simp)
     | false=>
       rw[if_neg (by simp),if_neg (by simp),if_pos g];have e1:AG ((a:Int)+1)=((a+1:Nat):Int):=by rw[CP (by omega) (by omega)];rfl
       by_cases c1:AF s (a:Int)=46
       ·obtain⟨c,d1,d2,d3,d4⟩:=YF;rw[Fp (by omega) ⟨q,c1⟩,Option.bind_some,if_pos rfl,d1,Option.bind_some,if_pos c1,show (Vector.replicate 4 (0:Int))=VZ from rfl,d2,Option.bind_some,e1];exact⟨_,true,a+1,rfl,by omega,by omega,by simp,fun _=>⟨by omega,by simp,rfl,.one c,⟨d3,d4⟩,rfl⟩,fun h=>by cases h⟩
       rw[Dk (by omega) (fun h=>c1 h.2),Option.bind_some,if_neg (by simp),if_neg c1,if_pos g];by_cases c2:AF s (a:Int)=126
       ·rw[Fp (by omega) ⟨q,c2⟩,Option.bind_some,if_pos rfl,if_pos c2,e1];exact⟨_,true,a+1,rfl,by omega,by omega,by simp,fun _=>⟨by omega,by simp,rfl,.non,trivial,rfl⟩,fun h=>by cases h⟩
       rw[Dk (by omega) (fun h=>c2 h.2),Option.bind_some,if_neg (by simp),if_neg c2,if_pos g];by_cases c3:AF s (a:Int)=40
       ·rw[Fp (by omega) ⟨q,c3⟩,Option.bind_some,if_pos rfl,if_neg (by omega),if_pos g,if_pos c3,if_neg (show ¬ (99:Int)≤(d:Int)by omega)];have e2:AG ((d:Int)+1)=((d+1:Nat):Int):=by rw[CP (by omega) (by omega)];rfl
        show RE s a d ((DD 20000 j (Ai.mk s ((a+1:Nat):Int) (AG ((d:Int)+1)))).bind _) _;rw[e1,e2];obtain⟨l,ok,a',e,k1,k2,k3,k4,k5⟩:=i4 (a+1) (d+1) (by omega) (by omega) (by omega);rw[e,Option.bind_some];have e3:AG (((d+1:Nat):Int) -1)=(d:Int):=by rw[CP (by omega) (by omega)];omega
        cases ok with
        | false=>
          obtain⟨z,hw⟩:=k5 rfl;rw[hw,Option.bind_some,if_neg (by simp),Option.bind_some];show RE s a d (some (l,false,Ai.mk s (a':Int) (AG (((d+1:Nat):Int) -1)))) _;rw[e3,if_pos rfl,Option.bind_some,if_pos rfl];exact RE.no (by omega) k2 (by omega)
        | true=>
          obtain⟨m1,m2,hw,t,ht,rfl⟩:=k4 rfl;rw[hw,Option.bind_some,if_pos rfl];show RE s a d (Option.bind (if AG (((d+1:Nat):Int) -1)<99 then(Ka 20000 (Ai.mk s (a':Int) (AG (((d+1:Nat):Int) -1))) 41).bind _ else _) _) _;rw[e3,if_pos (show (d:Int)<99 by omega),if_neg Gz];by_cases q2:a'<s.size∧AF s (a':Int)=41
          ·have q2a:=q2.1;have e4:AG ((a':Int)+1)=((a'+1:Nat):Int):=by rw[CP (by omega) (by omega)];rfl
           rw[Fp (by omega) q2,Option.bind_some,Option.bind_some,if_neg (show ¬ (s.size:Int)≤(a':Int)by omega),if_pos (bF q2a),Option.bind_some,decide_eq_false (fun h=>h q2.2),if_neg (by simp),e4];exact⟨Ac t,true,a'+1,rfl,by omega,by omega,by omega,fun _=>⟨by omega,by omega,rfl,t,ht,rfl⟩,fun h=>by cases h⟩
          ·rw[Dk (by omega) q2,Option.bind_some,Option.bind_some];have e5:(if(s.size:Int)≤(a':Int)then some true else if 0≤(a':Int)∧(a':Int)<(s.size:Int)then some (decide (AF s (a':Int)≠41))else none)=some true:=by
            by_cases k:a'<s.size
            ·rw[if_neg (by omega),if_pos (bF k)];exact congrArg some (decide_eq_true (fun h=>q2 ⟨k,h⟩))
            ·rw[if_pos (by omega)]
           show RE s a d _ (Option.bind (if(s.size:Int)≤(a':Int)then some true else if 0≤(a':Int)∧(a':Int)<(s.size:Int)then some (decide (AF s (a':Int)≠41))else none) _);rw[e5,Option.bind_some,if_pos rfl];exact RE.no (l:=Ac t) (by omega) k2 (by omega)
       rw[Dk (by omega) (fun h=>c3 h.2),Option.bind_some,if_neg (by simp)];by_cases c4:AF s (a:Int)=91
       ·rw[Fp (by omega) ⟨q,c4⟩,Option.bind_some,if_pos rfl,if_pos c4,e1];obtain⟨l,ok,a',e,k1,k2,kl,k3,k4⟩:=ZH (s:=s) (by omega) (a:=a+1) (by omega) (d:Int);rw[e,Option.bind_some]
        cases ok with
        | false=>
          obtain⟨z,hw⟩:=k4 rfl;rw[hw,Option.bind_some];refine⟨l,false,a',rfl,by omega,k2,by omega,(fun h=>by cases h),fun _=>⟨z,rfl⟩⟩
        | true=>
          obtain⟨m1,hw,v,rfl,hv,hv2⟩:=k3 rfl;rw[hw,Option.bind_some];exact⟨_,true,a',rfl,by omega,k2,by simp,fun _=>⟨by omega,by simp;omega,rfl,.one v,⟨hv,hv2⟩,rfl⟩,fun h=>by cases h⟩
       rw[Dk (by omega) (fun h=>c4 h.2),Option.bind_some,if_neg (by simp),if_neg c4,if_pos g,if_neg c3,if_pos ⟨by omega,by omega,Int.le_refl _⟩,Int.toNat_natCast,Int.toNat_natCast];obtain⟨c,ok,n,b1,b2,b3,b4,b5⟩:=I6 s (by omega) ha (d:Int);show RE s a d ((Mx 20000 (Ai.mk s (a:Int) (d:Int))).bind _) _;obtain⟨v,v1,v2,v3,v4⟩:=YW b3;rw[b1,b2,Option.bind_some,Option.bind_some,v1,Option.bind_some]
       cases ok with
       | false=>
         show RE s a d (some ([AE.mk 1 v],false,Ai.mk s ((a+n:Nat):Int) (d:Int))) (some ([],(a:Int)));exact RE.no (by omega) b4 (by simp)
       | true=>
         have n1:=b5 rfl;show RE s a d _ (if 0≤(256:Int)∧(256:Int)*1≤140737488355328∧(256:Int)≤9223372036854775807 then _ else none);rw[if_pos (by decide)];show RE s a d _ (if 0≤(c:Int)∧(c:Int)<((List.replicate 256 false).length:Int)then(Nq 20000 (AU (List.replicate 256 false) (c:Int) true)).bind _ else none);have e6:AG ((a:Int)+(n:Int))=((a+n:Nat):Int):=by rw[CP (by omega) (by omega)];rfl
         rw[if_pos ⟨by omega,by simp;omega⟩,v2,Option.bind_some];show RE s a d _ (some ([AE.mk 1 v],AG ((a:Int)+(n:Int))));rw[e6];exact⟨_,true,a+n,rfl,by omega,by omega,by simp,fun _=>⟨by omega,by simp;omega,rfl,.one v,⟨v3,v4⟩,rfl⟩,fun h=>by cases h⟩
    ·rw[if_pos (show (s.size:Int)≤(a:Int)by omega),Option.bind_some,if_pos rfl,decide_eq_true (show s.size≤a by omega),Bool.true_or,if_pos rfl];exact RE.no (Nat.le_refl _) ha (by simp)
   ·rw[Dw.eq_2,Dz.eq_2];obtain⟨l,ok,a',e,k1,k2,k3,k4,k5⟩:=i1 a d ha hd (by omega);rw[e,Option.bind_some]
    cases ok with
    | false=>
      obtain⟨z,hw⟩:=k5 rfl;rw[hw,Option.bind_some];show RE s a d (B1 20000 (l,false,Ai.mk s (a':Int) (d:Int)) (19999+1) s (a':Int) (d:Int) l) (CD 20000 s (19999+1) z []);rw[B1.eq_2,CD.eq_2,if_neg (by simp),if_neg (by simp),Option.bind_some,if_neg (by simp)];exact RE.no k1 k2 (by simp)
    | true=>
      obtain⟨m1,m2,hw,t,ht,rfl⟩:=k4 rfl;rw[hw,Option.bind_some];exact XA hz (Ac t,true,Ai.mk s (a':Int) (d:Int)) rfl 4000 a' 20000 20000 t (by omega) (by decide) (by decide) m1 k2 ht m2
   ·rw[D8.eq_2,Du.eq_2];obtain⟨l,ok,a',e,k1,k2,k3,k4,k5⟩:=i2 a d ha hd (by omega);rw[e,Option.bind_some]
    cases ok with
    | false=>
      obtain⟨z,hw⟩:=k5 rfl;rw[hw,Option.bind_some];show RE s a d (CF 20000 _ (19999+1) s (a':Int) (d:Int) l false) (Cw 20000 _ s (d:Int) (19999+1) z []);rw[CF.eq_2,Cw.eq_2,if_neg (by simp),if_neg (by simp),Option.bind_some,Option.bind_some,if_neg (by simp),if_neg (by simp)];exact RE.no k1 k2 k3
    | true=>
      obtain⟨m1,m2,hw,t,ht,rfl⟩:=k4 rfl;rw[hw,Option.bind_some];exact Wg hz (a0:=a) (d:=d) (fun a2 h1 h2=>i2 a2 d h2 (by omega) (by omega)) 4000 a' 20000 20000 t (by omega) (by decide) (by decide) m1 k2 ht m2
   ·rw[DD.eq_2,D7.eq_2];obtain⟨l,ok,a',e,k1,k2,k3,k4,k5⟩:=i3 a d ha hd (by omega);rw[e,Option.bind_some]
    cases ok with
    | false=>
      obtain⟨z,hw⟩:=k5 rfl;rw[hw,Option.bind_some];show RE s a d (CE 20000 _ (19999+1) s (a':Int) (d:Int) l false) (Cv 20000 _ s (d:Int) (19999+1) z []);rw[CE.eq_2,Cv.eq_2,if_neg (by simp),if_neg (by simp),Option.bind_some,Option.bind_some,if_neg (by simp)];exact RE.no k1 k2 k3
    | true=>
      obtain⟨m1,m2,hw,t,ht,rfl⟩:=k4 rfl;rw[hw,Option.bind_some];exact WW hz (a0:=a) (d:=d) (fun a2 h1 h2=>i3 a2 d h2 (by omega) (by omega)) 4000 a' 20000 20000 t (by omega) (by decide) (by decide) m1 k2 ht m2
theorem OW {s:ByteArray} (hz:s.size≤90):(∃ t,HC t∧(Ac t).length≤2*s.size∧WC 20000 s=some (Ac t,0)∧R8 20000 s=some (Ac t,0))∨(WC 20000 s=some ([],5)∧R8 20000 s=some ([],5)):=by
 obtain⟨l,ok,a',e,k1,k2,k3,k4,k5⟩:=(Kx hz 20000).2.2.2 0 0 (by omega) (by omega) (by omega);have e:YA 20000 (Ai.mk s 0 0)=some (l,ok,Ai.mk s (a':Int) 0):=e;unfold WC R8;rw[if_neg (by omega),if_neg (by omega),e,Option.bind_some]
 cases ok with
 | false=>
   obtain⟨z,hw⟩:=k5 rfl;have hw:Vp 20000 s 0 0=some ([],z):=hw;rw[hw];exact .inr ⟨rfl,rfl⟩
 | true=>
   obtain⟨m1,m2,hw,t,ht,rfl⟩:=k4 rfl;have hw:Vp 20000 s 0 0=some (Ac t,(a':Int)):=hw;rw[hw,Option.bind_some,if_neg (by simp),if_neg Gz,Option.bind_some];by_cases q:a'<s.size
   ·refine .inr ⟨?_,?_⟩<;>(show (if decide ((a':Int)<(s.size:Int))=true then some (([]:List AE),(5:Int))else if(400:Int)<((Ac t).length:Int)then some ([],6)else some (Ac t,0))=_;rw[decide_eq_true (show ((a':Nat):Int)<(s.size:Int)by omega),if_pos rfl])
   ·refine .inl ⟨t,ht,by omega,?_,?_⟩<;>(show (if decide ((a':Int)<(s.size:Int))=true then some (([]:List AE),(5:Int))else if(400:Int)<((Ac t).length:Int)then some ([],6)else some (Ac t,0))=_;rw[decide_eq_false (show ¬ ((a':Nat):Int)<(s.size:Int)by omega),if_neg (by simp),if_neg (by omega)])
def aM (p0:AI):Prop:=∀ c:Int,0≤AZ p0.f0 c∧AZ p0.f0 c≤255
def stp (p0:AI) (s c:Int):Int:=if s<0∨(p0.f1.length:Int)≤s∨((AA p0.f1 s).length:Int)≤AZ p0.f0 c then -1 else AA (AA p0.f1 s) (AZ p0.f0 c)
def mk (p0:AI) (s:Int):Int:=if s<0∨(p0.f2.length:Int)≤s then -1 else AA p0.f2 s
theorem QG (p0:AI) (k:Nat) (s:Int):RD k p0 s=some (mk p0 s):=by
 unfold RD mk;by_cases a:s<0
 ·simp[a]
 ·by_cases b:(p0.f2.length:Int)≤s
  ·simp[a,b]
  ·simp[a,b]
theorem Bo (p0:AI) (c:Int):stp p0 (-1) c= -1:=by simp[stp]
theorem DJ (p0:AI):mk p0 (-1)= -1:=by simp[mk]
theorem P8 {p0:AI} (k:Nat) (hn:p0.f1.length≤20):∀ (m i:Nat),i≤p0.f1.length→p0.f1.length-i<m→∃ b,Fz k p0 m i=some b∧(b=true→∀ j,i≤j→(h:j<p0.f1.length)→(p0.f1[j]).length≤256)
 | 0,i,_,h=>by omega
 | m+1,i,hi,h=>by
   rw[Fz.eq_2];by_cases a:(i:Int)<(p0.f1.length:Int)
   ·have hlt:i<p0.f1.length:=by omega
    have hrow:AA p0.f1 (i:Int)=p0.f1[i]:=by simp[AA,List.getD,List.getElem?_eq_getElem hlt]
    rw[if_pos a,if_pos ⟨by omega,a⟩,hrow];by_cases b:(256:Int)<((p0.f1[i]).length:Int)
    ·rw[if_pos b];exact⟨false,rfl,fun h=>by cases h⟩
    ·rw[if_neg b,A1 (by omega) (by omega)];obtain⟨c,h1,h2⟩:=P8 k hn m (i+1) (by omega) (by omega);refine⟨c,by simpa using h1,fun hc j hj hlt'=>?_⟩;by_cases e:j=i
     ·subst e;omega
     ·exact h2 hc j (by omega) hlt'
   ·rw[if_neg a];exact⟨true,rfl,fun _ j hj hlt=>by omega⟩
theorem PB (p0:AI) {k:Nat} (hk:20000≤k):∃ b,Zz k p0=some b∧(b=true→p0.f1.length≤20∧p0.f2.length≤30∧∀ r∈p0.f1,r.length≤256):=by
 unfold Zz;by_cases a:(20:Int)<(p0.f1.length:Int)
 ·rw[if_pos a,Option.bind_some,if_pos rfl];exact⟨_,rfl,fun h=>by cases h⟩
 ·rw[if_neg a,Option.bind_some];by_cases b:(30:Int)<(p0.f2.length:Int)
  ·rw[if_pos (by simpa using b)];exact⟨_,rfl,fun h=>by cases h⟩
  ·rw[if_neg (by simpa using b)];obtain⟨c,h1,h2⟩:=P8 (p0:=p0) k (by omega) k 0 (by omega) (by omega);refine⟨c,by simpa using h1,fun hc=>⟨by omega,by omega,fun r hr=>?_⟩⟩;obtain⟨j,hj,rfl⟩:=List.getElem_of_mem hr;exact h2 hc j (by omega) hj
theorem P3 {t:Rx} (ht:HC t) (hz:(Ac t).length≤200):Rt (gN t):=by
 have g:=HJ t 0;have hq:((qb t 0:Nat):Int)=((2*(Ac t).length:Nat):Int):=by unfold qb;omega
 have gl:=DF t 0;refine⟨⟨by show 0≤gI t 0;omega,by show gI t 0<((2*(Ac t).length:Nat):Int);omega⟩,⟨by show 0≤gO t 0;omega,by show gO t 0<((2*(Ac t).length:Nat):Int);omega⟩,fun e he=>?_,by show ((2*(Ac t).length:Nat):Int)≤8000;omega,by show (gr t 0).length≤8000;omega,fun e he=>(Bs t 0 ht e he).2.2.2.2⟩;obtain⟨a,b,c,d,_⟩:=Bs t 0 ht e he;exact⟨by omega,by show _<((2*(Ac t).length:Nat):Int);omega,by omega,by show _<((2*(Ac t).length:Nat):Int);omega⟩
theorem PW.fr {l:List AR} {p r:Int} {w:List Nat} (h:PW l p w r):w=[]→FR l p r:=by
 induction h with
 | nil p=>exact fun _=>.refl p
 | eps he hf _ ih=>exact fun k=>(FR.tail (.refl _) he hf).trans (ih k)
 | byte _ _ _ _ _=>exact fun k=>by cases k
theorem FR.pw {l:List AR} {p r:Int} (h:FR l p r):PW l p [] r:=by
 induction h with
 | refl=>exact .nil _
 | tail _ he hf ih=>exact ih.app (.eps he hf (.nil _))
theorem FJ (l:List Int) (i q:Nat) (b:Int) (h1:i<l.length):AA (AU l (i:Int) b) (q:Int)=if q=i then b else AA l (q:Int):=by
 unfold AA AU;rw[List.getD,List.getD,List.getElem?_set,Int.toNat_natCast,Int.toNat_natCast];by_cases e:i=q
 ·rw[if_pos e,if_pos (by omega),if_pos e.symm];rfl
 ·rw[if_neg e,if_neg (fun h=>e h.symm)]
theorem Pv (n:Ar) (hN:NN n≤8000) (h0:0≤n.f0):∀ (m i f:Nat) (x:List Int),i+m=NN n→m<f→x.length=NN n→(∀ q,q<i→AA x ((q:Nat):Int)= -1)→∃ y,y.length=NN n∧(∀ q,q<NN n→AA y ((q:Nat):Int)= -1)∧Cx 20000 n f x (i:Int)=GM 20000 n y
 | 0,i,f+1,x,hi,hf,hx,hq=>⟨x,hx,fun q h=>hq q (by omega),by rw[Cx.eq_2,List.length_replicate,show n.f0.toNat=NN n from rfl,if_neg (by omega)]⟩
 | m+1,i,f+1,x,hi,hf,hx,hq=>by
   obtain⟨y,y1,y2,y3⟩:=Pv n hN h0 m (i+1) f (AU x (i:Int) (-1)) (by omega) (by omega) (by rw[Au,hx]) (fun q h=>by
    rw[FJ _ _ _ _ (by omega)];by_cases e:q=i
    ·rw[if_pos e]
    ·rw[if_neg e];exact hq q (by omega))
   refine⟨y,y1,y2,?_⟩;rw[Cx.eq_2,List.length_replicate,show n.f0.toNat=NN n from rfl,if_pos (by omega),if_pos ⟨by omega,by omega⟩,CP (by omega) (by omega)];exact_mod_cast y3
theorem Qf {M:List Int} {t:List Bool} {la:Nat} (hM:M.length=t.length) (hla:la<t.length) (h:∀ q:Nat,q<t.length→AA M (q:Int)=if q=la then 0 else -1):∀ (m i:Nat) (o:Int),i+m=t.length→(o= -1∨o=0)→M5 M t m i o=if o=0∨(i≤la∧AA t (la:Int)=true)then 0 else -1
 | 0,i,o,hi,ho=>by
   show o=_;split
   ·next c=>
     rcases c with c|c
     ·exact c
     ·omega
   ·next c=>
     rcases ho with ho|ho
     ·exact ho
     ·exact absurd (.inl ho) c
 | m+1,i,o,hi,ho=>by
   rw[M5];have e:QW M t i o=if o=0∨(i=la∧AA t (la:Int)=true)then 0 else -1:=by
    unfold QW;rw[h i (by omega)];by_cases a:i=la
    ·subst a;rw[if_pos rfl];by_cases b:AA t (i:Int)=true
     ·rw[if_pos (show o=0∨_ from .inr ⟨rfl,b⟩)];rcases ho with ho|ho
      ·rw[if_pos ⟨b,by omega,by omega,.inl (by omega)⟩]
      ·split
       ·rfl
       ·exact ho
     ·rw[if_neg (fun c=>b c.1)];rcases ho with ho|ho
      ·rw[if_neg (fun c=>by rcases c with c|c;omega;exact b c.2)];exact ho
      ·rw[if_pos (.inl ho)];exact ho
    ·rw[if_neg a,if_neg (fun c=>by have:=c.2.2.1;omega)];rcases ho with ho|ho
     ·rw[if_neg (fun c=>by rcases c with c|c;omega;exact a c.1)];exact ho
     ·rw[if_pos (.inl ho)];exact ho
   rw[e,Qf hM hla h m (i+1) _ (by omega) (by split<;>simp)];by_cases c:o=0
   ·rw[if_pos (.inl c:o=0∨(i=la∧AA t (la:Int)=true)),if_pos (.inl rfl),if_pos (.inl c)]
   ·by_cases a:i=la∧AA t (la:Int)=true
    ·rw[if_pos (.inr a:o=0∨(i=la∧AA t (la:Int)=true)),if_pos (.inl rfl),if_pos (.inr ⟨by omega,a.2⟩)]
    ·rw[if_neg (by rintro (d|d);exact c d;exact a d:¬ (o=0∨(i=la∧AA t (la:Int)=true)))];by_cases d:i+1≤la∧AA t (la:Int)=true
     ·rw[if_pos (.inr d),if_pos (.inr ⟨by omega,d.2⟩)]
     ·rw[if_neg (by rintro (f|f);omega;exact d f),if_neg (by
       rintro (f|f)
       ·exact c f
       ·by_cases g:i=la
        ·exact a ⟨g,f.2⟩
        ·exact d ⟨by omega,f.2⟩)]
def fS (n:Ar) (S:List Bool) (w:List Nat):List Bool:=w.foldl (fun S b=>CL n (MV n S b)) S
theorem Pt {n:Ar} {S:List Bool} (hS:S.length=NN n):∀ w:List Nat,(fS n S w).length=NN n
 | []=>hS
 | b::w=>Pt (LW n S b) w
theorem PW.inv {l:List AR} {p r:Int} {w:List Nat} (h:PW l p w r):∀ (b:Nat) (v:List Nat),w=b::v→∃ e∈l,FR l p e.f0∧e.f3=false∧tb e.f2 b=true∧PW l e.f1 v r:=by
 induction h with
 | nil=>exact fun b v k=>by cases k
 | @eps e w r he hf k ih=>
   intro b v hw;obtain⟨e',m1,m2,m3⟩:=ih b v hw;exact⟨e',m1,(FR.tail (.refl _) he hf).trans m2,m3⟩
 | byte he hf hb k _=>
   intro b v hw;obtain⟨rfl,rfl⟩:=List.cons.inj hw;exact⟨_,he,.refl _,hf,hb,k⟩
def Ux (n:Ar) (S:List Bool):Prop:=∀ p q:Int,0≤p→0≤q→AA S p=true→FR n.f1 p q→AA S q=true
theorem S9 {n:Ar} (h:Rt n) {x:List Bool} (hx:x.length=NN n):Ux n (CL n x):=by
 intro p q hp hq k f;obtain⟨r,r0,r1,r2⟩:=(GD h hx hp).1 k;exact(GD h hx hq).2 ⟨r,r0,r1,r2.trans f⟩
theorem FR.nn {n:Ar} (h:Rt n) {p q:Int} (hp:0≤p) (k:FR n.f1 p q):0≤q:=by
 induction k with
 | refl=>exact hp
 | tail _ he _ _=>exact(h.ed _ he).2.2.1
theorem UK {n:Ar} (h:Rt n) {q:Int} (hq:0≤q):∀ (w:List Nat) (S:List Bool),S.length=NN n→Ux n S→(AA (fS n S w) q=true↔∃ p,0≤p∧AA S p=true∧PW n.f1 p w q)
 | [],S,hS,hc=>by
   show AA S q=true↔_;exact⟨fun k=>⟨q,hq,k,.nil q⟩,fun⟨p,p0,p1,p2⟩=>hc p q p0 hq p1 (p2.fr rfl)⟩
 | b::w,S,hS,hc=>by
   have hl:=L8 n S b;have hn:=h.nn;show AA (fS n (CL n (MV n S b)) w) q=true↔_;rw[UK h hq w (CL n (MV n S b)) (LW n S b) (S9 h hl)];constructor
   ·rintro⟨p,p0,p1,p2⟩;obtain⟨r,r0,r1,r2⟩:=(GD h hl p0).1 p1;obtain⟨e,he,hf,_,hs,hb,rfl⟩:=(PC h S b r0).1 r1;refine⟨e.f0,(h.ed e he).1,hs,.byte he hf hb ?_⟩;have:=r2.pw.app p2;exact this
   ·rintro⟨p,p0,p1,p2⟩;obtain⟨e,he,m1,hf,hb,m2⟩:=p2.inv b w rfl;have e0:=h.ed e he;have hs:=hc p e.f0 p0 e0.1 p1 m1;exact⟨e.f1,e0.2.2.1,(GD h hl e0.2.2.1).2 ⟨e.f1,e0.2.2.1,(PC h S b e0.2.2.1).2 ⟨e,he,hf,by omega,hs,hb,rfl⟩,.refl _⟩,m2⟩
theorem Wl {n:Ar} (h:Rt n) {q:Int} (hq:0≤q) (w:List Nat):AA (fS n (F0 n) w) q=true↔PW n.f1 n.f2 w q:=by
 have hf:=h.first;have hn:=h.nn;have hx:(AU (List.replicate (NN n) false) n.f2 true).length=NN n:=by rw[Au,List.length_replicate]
 rw[UK h hq w _ (F5 _) (S9 h hx)];constructor
 ·rintro⟨p,p0,hp,k⟩;unfold F0 at hp;obtain⟨r,r0,r1,r2⟩:=(GD h hx p0).1 hp;rw[Di _ _ _ hf.1 (by rw[List.length_replicate];omega) r0,Nj,Bool.or_false,decide_eq_true_eq]at r1;subst r1;have:=r2.pw.app k;exact this
 ·intro k;refine⟨n.f2,hf.1,?_,k⟩;exact(GD h hx hf.1).2 ⟨n.f2,hf.1,by rw[Di _ _ _ hf.1 (by rw[List.length_replicate];omega) hf.1];simp,.refl _⟩
theorem VG {t:Rx} (ht:HC t) (hz:(Ac t).length≤200) (w:List Nat):AA (fS (gN t) (F0 (gN t)) w) (gO t 0)=true↔Lx t w:=by
 rw[Wl (P3 ht hz) (show (0:Int)≤gO t 0 from(P3 ht hz).last.1), ←QB ht 0];rfl
def D4 (p:Nat→Bool):Nat→Nat→Bool
 | 0,_=>true
 | m+1,i=>p i&&D4 p m (i+1)
def IL (p:Nat→Bool):Nat→Nat→Bool
 | 0,_=>false
 | m+1,i=>p i||IL p m (i+1)
theorem HV (p:Nat→Bool):∀ (m i:Nat),D4 p m i=true↔∀ j,i≤j→j<i+m→p j=true
 | 0,i=>by simp[D4];omega
 | m+1,i=>by
   rw[D4,Bool.and_eq_true,HV p m (i+1)];constructor
   ·rintro⟨h1,h2⟩ j hj hj';by_cases e:j=i
    ·rw[e];exact h1
    ·exact h2 j (by omega) (by omega)
   ·intro h;exact⟨h i (by omega) (by omega),fun j hj hj'=>h j (by omega) (by omega)⟩
theorem Nk (p:Nat→Bool):∀ (m i:Nat),IL p m i=true↔∃ j,i≤j∧j<i+m∧p j=true
 | 0,i=>by simp[IL];omega
 | m+1,i=>by
   rw[IL,Bool.or_eq_true,Nk p m (i+1)];constructor
   ·rintro (h|⟨j,h1,h2,h3⟩)
    ·exact⟨i,by omega,by omega,h⟩
    ·exact⟨j,by omega,by omega,h3⟩
   ·rintro⟨j,h1,h2,h3⟩;by_cases e:j=i
    ·exact .inl (e▸h3)
    ·exact .inr ⟨j,by omega,by omega,h3⟩
def kc (v:Vector Int 256):Nat→Int
 | 0=>0
 | b+1=>max (kc v b) (AZ v (b:Int)+1)
def EA (v:Vector Int 256):Int:=kc v 256
def VB (v:Vector Int 256):Prop:=∀ c:Int,0≤AZ v c∧AZ v c≤255
theorem Dt {v:Vector Int 256} (h:VB v):∀ b:Nat,0≤kc v b∧kc v b≤256
 | 0=>by simp[kc]
 | b+1=>by
   have:=Dt h b;have:=h (b:Int);rw[kc];omega
theorem T1 {v:Vector Int 256}:∀ (m b:Nat),b<m→AZ v (b:Int)<kc v m
 | 0,b,h=>by omega
 | m+1,b,h=>by
   rw[kc];by_cases e:b=m
   ·subst e;omega
   ·have:=T1 (v:=v) m b (by omega);omega
theorem SD {v:Vector Int 256} {b:Nat} (h:b<256):AZ v (b:Int)<EA v:=T1 256 b h
theorem CQ {x:Int} (h0: -1000000000000≤x) (h1:x≤1000000000000):AG x=x:=A1 (by omega) (by omega)
theorem QP {v:Vector Int 256} (h:VB v):∀ (m b fuel:Nat),b+m=256→m<fuel→Cj 20000 v fuel (kc v b) (b:Int)=some (EA v)
 | 0,b,f+1,hb,_=>by
   rw[Cj.eq_2,if_neg (by omega),JA,show b=256 by omega];rfl
 | m+1,b,f+1,hb,hf=>by
   have h0:=h (b:Int);have ih:=QP h m (b+1) f (by omega) (by omega);rw[Cj.eq_2,if_pos (by omega),if_pos ⟨by omega,by omega⟩,CQ (x:=AZ v (b:Int)) (by omega) (by omega),CQ (by omega) (by omega),CQ (by omega) (by omega)];rw[kc]at ih;exact_mod_cast ih
theorem F6 {v:Vector Int 256} (h:VB v):Wk 20000 v=some (EA v):=QP h 256 0 20000 (by omega) (by omega)
theorem KY {d:AI} (h:VB d.f0):∀ (m b fuel:Nat),b+m=256→m<fuel→E5 20000 d fuel (kc d.f0 b) (b:Int)=some (EA d.f0)
 | 0,b,f+1,hb,_=>by
   rw[E5.eq_2,if_neg (by omega),Lj,show b=256 by omega];rfl
 | m+1,b,f+1,hb,hf=>by
   have h0:=h (b:Int);have ih:=KY h m (b+1) f (by omega) (by omega);rw[E5.eq_2,if_pos (by omega),if_pos ⟨by omega,by omega⟩,CQ (x:=AZ d.f0 (b:Int)) (by omega) (by omega),CQ (by omega) (by omega),CQ (by omega) (by omega)];rw[kc]at ih;exact_mod_cast ih
theorem Gw {d:AI} (h:VB d.f0):ZR 20000 d=some (EA d.f0):=KY h 256 0 20000 (by omega) (by omega)
def PM (v:Vector Int 256) (c:Nat):Bool:=IL (fun b=>decide (AZ v (b:Int)=(c:Int))) 256 0
def Pr (v:Vector Int 256):Bool:=D4 (PM v) (EA v).toNat 0
theorem Jb (v:Vector Int 256) (c:Nat):PM v c=true↔∃ b:Nat,b<256∧AZ v (b:Int)=c:=by
 unfold PM;rw[Nk];constructor
 ·rintro⟨b,_,h2,h3⟩;exact⟨b,by omega,of_decide_eq_true h3⟩
 ·rintro⟨b,h1,h2⟩;exact⟨b,by omega,by omega,decide_eq_true h2⟩
theorem P9 {d:AI} (h:VB d.f0) (rec4:Int→Option Bool) (c:Nat):∀ (m b fuel:Nat) (acc:Bool),b+m=256→m<fuel→
 FE 20000 rec4 d (c:Int) fuel acc (b:Int)=JX 20000 rec4 (c:Int) (acc||IL (fun b=>decide (AZ d.f0 (b:Int)=(c:Int))) m b)
 | 0,b,f+1,acc,hb,_=>by
   rw[FE.eq_2,if_neg (by omega),IL,Bool.or_false]
 | m+1,b,f+1,acc,hb,hf=>by
   have h0:=h (b:Int);have ih:=fun acc=>P9 h rec4 c m (b+1) f acc (by omega) (by omega);have g:0≤(b:Int)∧(b:Int)<256:=⟨by omega,by omega⟩;rw[FE.eq_2,if_pos (by omega),CQ (x:=AZ d.f0 (b:Int)) (by omega) (by omega),if_pos g];have key:(if acc=true then some true else some (decide (AZ d.f0 (b:Int)=(c:Int))))=some (acc||decide (AZ d.f0 (b:Int)=(c:Int))):=by cases acc<;>simp
   rw[key,Option.bind_some,CQ (by omega) (by omega),show (b:Int)+1=((b+1:Nat):Int)by omega,ih,IL,Bool.or_assoc]
theorem QF {d:AI} (h:VB d.f0):∀ (m c fuel:Nat),(c:Int)+m=EA d.f0→m<fuel→EU 20000 d fuel (c:Int)=some (D4 (PM d.f0) m c)
 | 0,c,f+1,hc,_=>by
   rw[EU.eq_2,Gw h,Option.bind_some,if_neg (by omega),Lf];rfl
 | m+1,c,f+1,hc,hf=>by
   have h1:=Dt h 256;have h2:EA d.f0=kc d.f0 256:=rfl;have ih:=QF h m (c+1) f (by omega) (by omega);have e:=P9 h (EU 20000 d f) c 256 0 20000 false (by omega) (by omega);rw[Int.natCast_zero]at e;rw[EU.eq_2,Gw h,Option.bind_some,if_pos (by omega),e,Bool.false_or,JX,D4];show (if(!PM d.f0 c)=true then some false else _)=_
   cases PM d.f0 c with
   | false=>rfl
   | true=>
     rw[if_neg (by decide),M3,CQ (by omega) (by omega),Bool.true_and];exact_mod_cast ih
theorem V9 {d:AI} (h:VB d.f0):ax 20000 d=some (Pr d.f0):=by
 have h1:=Dt h 256;have h2:EA d.f0=kc d.f0 256:=rfl;exact QF h (EA d.f0).toNat 0 20000 (by omega) (by omega)
theorem Su (x:List Bool) (hx:x.length≤2000):∀ (m i fuel:Nat),i+m=x.length→m<fuel→FF 20000 x fuel (i:Int)=some (D4 (fun j=>AA x (j:Int)) m i)
 | 0,i,f+1,hi,_=>by
   rw[FF.eq_2,if_neg (by omega)];rfl
 | m+1,i,f+1,hi,hf=>by
   have ih:=Su x hx m (i+1) f (by omega) (by omega);rw[FF.eq_2,if_pos (by omega),if_pos ⟨by omega,by omega⟩,D4,CQ (by omega) (by omega)]
   cases AA x (i:Int)with
   | false=>rfl
   | true=>rw[if_neg (by decide),Bool.true_and];exact_mod_cast ih
theorem Tw {v:Vector Int 256} (h:VB v):∀ (m b fuel:Nat) (x:List Bool),b+m=256→m<fuel→x.length=(EA v).toNat→(∀ c:Nat,AA x (c:Int)=true↔∃ j:Nat,j<b∧AZ v (j:Int)=c)→
 ∃ y:List Bool,E6 20000 v fuel x (b:Int)=JN 20000 y∧y.length=(EA v).toNat∧∀ c:Nat,AA y (c:Int)=PM v c
 | 0,b,f+1,x,hb,_,hx,hs=>by
   rw[E6.eq_2,if_neg (by omega)];refine⟨x,rfl,hx,fun c=>?_⟩;rw[Bool.eq_iff_iff,hs c,Jb,show b=256 by omega]
 | m+1,b,f+1,x,hb,hf,hx,hs=>by
   have h0:=h (b:Int);have h1:=Dt h 256;have h2:EA v=kc v 256:=rfl;have h3:=SD (v:=v) (b:=b) (by omega);have hlt:AZ v (b:Int)<(x.length:Int):=by omega
   rw[E6.eq_2,if_pos (by omega),if_pos ⟨by omega,by omega⟩,if_pos ⟨h0.1,hlt⟩,CQ (by omega) (by omega)]
   have ih:=Tw h m (b+1) f (AU x (AZ v (b:Int)) true) (by omega) (by omega) (by rw[Au];exact hx) (fun c=>by
    rw[CJ x _ _ true h0.1 hlt (by omega)];constructor
    ·intro q;by_cases e:(c:Int)=AZ v (b:Int)
     ·exact⟨b,by omega,e.symm⟩
     ·rw[if_neg e]at q;obtain⟨j,j1,j2⟩:=(hs c).1 q;exact⟨j,by omega,j2⟩
    ·rintro⟨j,j1,j2⟩;by_cases e:(c:Int)=AZ v (b:Int)
     ·rw[if_pos e]
     ·rw[if_neg e];refine(hs c).2 ⟨j,?_,j2⟩;by_cases q:j=b
      ·subst q;exact absurd j2.symm e
      ·omega)
   exact_mod_cast ih
theorem YH {v:Vector Int 256} (h:VB v):Zh 20000 v (EA v)=some (Pr v):=by
 have h1:=Dt h 256;have h2:EA v=kc v 256:=rfl;unfold Zh;rw[if_pos ⟨by omega,by omega,by omega⟩];obtain⟨y,y1,y2,y3⟩:=Tw h 256 0 20000 (List.replicate (EA v).toNat false) (by omega) (by omega) (by simp) (fun c=>by rw[GU];simp);rw[Int.natCast_zero]at y1;rw[y1,JN];have e:=Su y (by omega) y.length 0 20000 (by omega) (by omega);rw[Int.natCast_zero]at e;rw[e,Pr,y2];congr 1;rw[Bool.eq_iff_iff,HV,HV];exact⟨fun q j a b=>by rw[←y3 j];exact q j a b,fun q j a b=>by rw[y3 j];exact q j a b⟩
def IX (d:AI) (r:List Int) (c:Nat):Bool:=decide (-1≤AA r (c:Int)∧AA r (c:Int)<(d.f1.length:Int))
def Rr (d:AI) (i:Nat):Bool:=decide (((AA d.f1 (i:Int)).length:Int)=EA d.f0∧ -1≤AA d.f2 (i:Int)∧AA d.f2 (i:Int)<32768)&&D4 (IX d (AA d.f1 (i:Int))) (AA d.f1 (i:Int)).length 0
def YD (d:AI):Bool:=decide (1≤d.f1.length∧d.f2.length=d.f1.length)&&Pr d.f0&&D4 (Rr d) d.f1.length 0
theorem Kt {d:AI} (rec11:Int→Option Bool) (i:Nat) (hi:i<d.f1.length) (hl:(AA d.f1 (i:Int)).length≤256) (hn:d.f1.length≤2000):∀ (m c fuel:Nat),c+m=(AA d.f1 (i:Int)).length→m<fuel→
 FC 20000 rec11 d (i:Int) fuel (c:Int)=if D4 (IX d (AA d.f1 (i:Int))) m c=true then JT 20000 rec11 (i:Int)else some false
 | 0,c,f+1,hc,_=>by
   rw[FC.eq_2,if_pos ⟨by omega,by omega⟩,if_neg (by omega),D4,if_pos rfl]
 | m+1,c,f+1,hc,hf=>by
   have ih:=Kt rec11 i hi hl hn m (c+1) f (by omega) (by omega);have g:0≤(i:Int)∧(i:Int)<(d.f1.length:Int):=⟨by omega,by omega⟩;have g2:0≤(c:Int)∧(c:Int)<((AA d.f1 (i:Int)).length:Int):=⟨by omega,by omega⟩;rw[FC.eq_2,if_pos g,if_pos g2.2,if_pos g,if_pos g2,if_pos g,if_pos g2];have key:(if AA (AA d.f1 (i:Int)) (c:Int)<(-1:Int)then some true else some (decide ((d.f1.length:Int)≤AA (AA d.f1 (i:Int)) (c:Int))))=some (!IX d (AA d.f1 (i:Int)) c):=by
    unfold IX;by_cases a:AA (AA d.f1 (i:Int)) (c:Int)<(-1:Int)
    ·rw[if_pos a,decide_eq_false (by omega)];rfl
    ·rw[if_neg a];by_cases b:(d.f1.length:Int)≤AA (AA d.f1 (i:Int)) (c:Int)
     ·rw[decide_eq_true b,decide_eq_false (by omega)];rfl
     ·rw[decide_eq_false b,decide_eq_true (by omega)];rfl
   rw[key,Option.bind_some,CQ (by omega) (by omega),D4]
   cases IX d (AA d.f1 (i:Int)) c with
   | false=>rfl
   | true=>rw[if_neg (by decide),Bool.true_and];exact_mod_cast ih
theorem NX {d:AI} (rec12:Int→Option Bool) (i:Nat) (hi:i<d.f1.length) (hl:(AA d.f1 (i:Int)).length≤256) (hn:d.f1.length≤2000):∀ (m c fuel:Nat),c+m=(AA d.f1 (i:Int)).length→m<fuel→
 Fc 20000 rec12 d (i:Int) fuel (c:Int)=if D4 (IX d (AA d.f1 (i:Int))) m c=true then JD 20000 rec12 (i:Int)else some false
 | 0,c,f+1,hc,_=>by
   rw[Fc.eq_2,if_neg (by omega),D4,if_pos rfl]
 | m+1,c,f+1,hc,hf=>by
   have ih:=NX rec12 i hi hl hn m (c+1) f (by omega) (by omega);have g2:0≤(c:Int)∧(c:Int)<((AA d.f1 (i:Int)).length:Int):=⟨by omega,by omega⟩;rw[Fc.eq_2,if_pos g2.2,if_pos g2];have key:(if AA (AA d.f1 (i:Int)) (c:Int)<(-1:Int)then some true else some (decide ((d.f1.length:Int)≤AA (AA d.f1 (i:Int)) (c:Int))))=some (!IX d (AA d.f1 (i:Int)) c):=by
    unfold IX;by_cases a:AA (AA d.f1 (i:Int)) (c:Int)<(-1:Int)
    ·rw[if_pos a,decide_eq_false (by omega)];rfl
    ·rw[if_neg a];by_cases b:(d.f1.length:Int)≤AA (AA d.f1 (i:Int)) (c:Int)
     ·rw[decide_eq_true b,decide_eq_false (by omega)];rfl
     ·rw[decide_eq_false b,decide_eq_true (by omega)];rfl
   rw[key,Option.bind_some,CQ (by omega) (by omega),D4]
   cases IX d (AA d.f1 (i:Int)) c with
   | false=>rfl
   | true=>rw[if_neg (by decide),Bool.true_and];exact_mod_cast ih
theorem Qj {d:AI} (i:Nat) (hi:i<d.f1.length) (h2:d.f2.length=d.f1.length):(if((AA d.f1 (i:Int)).length:Int)≠EA d.f0 then some true else if 0≤(i:Int)∧(i:Int)<(d.f2.length:Int)then if AA d.f2 (i:Int)<(-1:Int)then some true else if 0≤(i:Int)∧(i:Int)<(d.f2.length:Int)then some (decide ((32768:Int)≤AA d.f2 (i:Int)))else none else none)=
 some (!decide (((AA d.f1 (i:Int)).length:Int)=EA d.f0∧ -1≤AA d.f2 (i:Int)∧AA d.f2 (i:Int)<32768)):=by
 have g:0≤(i:Int)∧(i:Int)<(d.f2.length:Int):=⟨by omega,by omega⟩;rw[if_pos g,if_pos g];by_cases a:((AA d.f1 (i:Int)).length:Int)=EA d.f0
 ·rw[if_neg (by simpa using a)];by_cases b:AA d.f2 (i:Int)<(-1:Int)
  ·rw[if_pos b,decide_eq_false (by omega)];rfl
  ·rw[if_neg b];by_cases c:(32768:Int)≤AA d.f2 (i:Int)
   ·rw[decide_eq_true c,decide_eq_false (by omega)];rfl
   ·rw[decide_eq_false c,decide_eq_true ⟨a,by omega,by omega⟩];rfl
 ·rw[if_pos a,decide_eq_false (fun q=>a q.1)];rfl
theorem Kh {d:AI} (hv:VB d.f0) (h2:d.f2.length=d.f1.length) (hl:∀ r∈d.f1,r.length≤256) (hn:d.f1.length≤2000):∀ (m i fuel:Nat),i+m=d.f1.length→m<fuel→
 EJ 20000 d fuel (i:Int)=some (D4 (Rr d) m i)
 | 0,i,f+1,hi,_=>by
   rw[EJ.eq_2,if_neg (by omega)];rfl
 | m+1,i,f+1,hi,hf=>by
   have hi':i<d.f1.length:=by omega
   have hr:(AA d.f1 (i:Int)).length≤256:=by rw[Ae _ i hi'];exact hl _ (List.getElem_mem hi')
   have ih:=Kh hv h2 hl hn m (i+1) f (by omega) (by omega);have e:=Kt (EJ 20000 d f) i hi' hr hn (AA d.f1 (i:Int)).length 0 20000 (by omega) (by omega);rw[Int.natCast_zero]at e;rw[EJ.eq_2,if_pos (by omega),if_pos ⟨by omega,by omega⟩,Gw hv,Option.bind_some,Qj i hi' h2,Option.bind_some,e,D4,Rr]
   cases decide (((AA d.f1 (i:Int)).length:Int)=EA d.f0∧ -1≤AA d.f2 (i:Int)∧AA d.f2 (i:Int)<32768)with
   | false=>rfl
   | true=>
     rw[if_neg (by decide),Bool.true_and]
     cases D4 (IX d (AA d.f1 (i:Int))) (AA d.f1 (i:Int)).length 0 with
     | false=>rfl
     | true=>rw[if_pos rfl,JT,CQ (by omega) (by omega),Bool.true_and];exact_mod_cast ih
theorem OU {d:AI} (h2:d.f2.length=d.f1.length) (hl:∀ r∈d.f1,r.length≤256) (hn:d.f1.length≤2000):∀ (m i fuel:Nat),i+m=d.f1.length→m<fuel→
 ET 20000 d (EA d.f0) fuel (i:Int)=some (D4 (Rr d) m i)
 | 0,i,f+1,hi,_=>by
   rw[ET.eq_2,if_neg (by omega)];rfl
 | m+1,i,f+1,hi,hf=>by
   have hi':i<d.f1.length:=by omega
   have hr:(AA d.f1 (i:Int)).length≤256:=by rw[Ae _ i hi'];exact hl _ (List.getElem_mem hi')
   have ih:=OU h2 hl hn m (i+1) f (by omega) (by omega);have e:=NX (ET 20000 d (EA d.f0) f) i hi' hr hn (AA d.f1 (i:Int)).length 0 20000 (by omega) (by omega);rw[Int.natCast_zero]at e;rw[ET.eq_2,if_pos (by omega),if_pos ⟨by omega,by omega⟩,Qj i hi' h2,Option.bind_some,e,D4,Rr]
   cases decide (((AA d.f1 (i:Int)).length:Int)=EA d.f0∧ -1≤AA d.f2 (i:Int)∧AA d.f2 (i:Int)<32768)with
   | false=>rfl
   | true=>
     rw[if_neg (by decide),Bool.true_and]
     cases D4 (IX d (AA d.f1 (i:Int))) (AA d.f1 (i:Int)).length 0 with
     | false=>rfl
     | true=>rw[if_pos rfl,JD,CQ (by omega) (by omega),Bool.true_and];exact_mod_cast ih
theorem Oz {d:AI} (hv:VB d.f0) (hl:∀ r∈d.f1,r.length≤256) (hn:d.f1.length≤2000):Yq 20000 d=some (YD d):=by
 unfold Yq YD;by_cases a:(d.f1.length:Int)<1
 ·rw[if_pos a,Option.bind_some,if_pos rfl,decide_eq_false (by omega)];rfl
 rw[if_neg a,if_neg (by omega)];by_cases b:(d.f2.length:Int)=(d.f1.length:Int)
 ·rw[if_neg (by simpa using b),V9 hv,Option.bind_some,Option.bind_some,decide_eq_true ⟨by omega,by omega⟩]
  cases Pr d.f0 with
  | false=>rfl
  | true=>
    rw[if_neg (by decide)];have:=Kh hv (by omega) hl hn d.f1.length 0 20000 (by omega) (by omega);simpa using this
 ·rw[if_pos b,Option.bind_some,if_pos rfl,decide_eq_false (by omega)];rfl
theorem R3 {d:AI} (hv:VB d.f0) (hl:∀ r∈d.f1,r.length≤256) (hn:d.f1.length≤2000):R6 20000 d=some (YD d):=by
 unfold R6 YD;by_cases a:(d.f1.length:Int)=0
 ·rw[if_pos a,Option.bind_some,if_pos rfl,decide_eq_false (by omega)];rfl
 rw[if_neg a,if_neg (by omega)];by_cases b:(d.f2.length:Int)=(d.f1.length:Int)
 ·rw[decide_eq_false (by simpa using b),Option.bind_some,if_neg (by decide),F6 hv,Option.bind_some,YH hv,Option.bind_some,decide_eq_true ⟨by omega,by omega⟩]
  cases Pr d.f0 with
  | false=>rfl
  | true=>
    rw[if_neg (by decide)];have:=OU (by omega) hl hn d.f1.length 0 20000 (by omega) (by omega);simpa using this
 ·rw[decide_eq_true b,Option.bind_some,if_pos rfl,decide_eq_false (by omega)];rfl
structure Dr (d:AI):Prop where
 n1:1≤d.f1.length
 n2:d.f1.length≤2000
 ml:d.f2.length=d.f1.length
 vb:VB d.f0
 gap:∀ c:Nat,(c:Int)<EA d.f0→∃ b:Nat,b<256∧AZ d.f0 (b:Int)=c
 row:∀ r∈d.f1,(r.length:Int)=EA d.f0
 ent:∀ r∈d.f1,∀ x∈r, -1≤x∧x<(d.f1.length:Int)
 mark:∀ m∈d.f2, -1≤m∧m<32768
theorem Cc {α:Type} [Inhabited α] {l:List α} {x:α} (h:x∈l):∃ j:Nat,j<l.length∧AA l (j:Int)=x:=by
 obtain⟨j,hj,rfl⟩:=List.getElem_of_mem h;exact⟨j,hj,Ae l j hj⟩
theorem Al {α:Type} [Inhabited α] {l:List α} {i:Int} (h0:0≤i) (h1:i<(l.length:Int)):AA l i∈l:=by
 have:AA l i=l[i.toNat]'(by omega):=by
  have:=Ae l i.toNat (by omega);rwa [Int.toNat_of_nonneg h0]at this
 rw[this];exact List.getElem_mem _
theorem VX {d:AI} (hv:VB d.f0) (hn:d.f1.length≤2000):YD d=true↔Dr d:=by
 have hk:=Dt hv 256;have hk2:EA d.f0=kc d.f0 256:=rfl;simp only[YD,Bool.and_eq_true,decide_eq_true_eq,Pr,HV,Rr,IX];constructor
 ·rintro⟨⟨⟨h1,h2⟩,h3⟩,h4⟩;refine⟨h1,hn,h2,hv,fun c hc=>(Jb _ c).1 (h3 c (by omega) (by omega)),fun r hr=>?_,fun r hr x hx=>?_,fun m hm=>?_⟩
  ·obtain⟨j,hj,rfl⟩:=Cc hr;exact(h4 j (by omega) (by omega)).1.1
  ·obtain⟨j,hj,rfl⟩:=Cc hr;obtain⟨c,hc,rfl⟩:=Cc hx;exact(h4 j (by omega) (by omega)).2 c (by omega) (by omega)
  ·obtain⟨j,hj,rfl⟩:=Cc hm;exact(h4 j (by omega) (by omega)).1.2
 ·intro h;refine⟨⟨⟨h.n1,h.ml⟩,fun j _ hj=>(Jb _ j).2 (h.gap j (by omega))⟩,fun j _ hj=>?_⟩;have hr:AA d.f1 (j:Int)∈d.f1:=Al (by omega) (by omega);have hm:=h.ml;exact⟨⟨h.row _ hr,h.mark _ (Al (by omega) (by omega))⟩,fun c _ hc=>h.ent _ hr _ (Al (by omega) (by omega))⟩
theorem Dr.rg {d:AI} (h:Dr d):YD d=true:=(VX h.vb h.n2).2 h
theorem Dr.row256 {d:AI} (h:Dr d):∀ r∈d.f1,r.length≤256:=fun r hr=>by
 have h1:=Dt h.vb 256;have h2:EA d.f0=kc d.f0 256:=rfl;have:=h.row r hr;omega
theorem Dr.right {d:AI} (h:Dr d):R6 20000 d=some true:=by rw[R3 h.vb h.row256 h.n2,h.rg]
theorem Dr.rright {d:AI} (h:Dr d):Yq 20000 d=some true:=by rw[Oz h.vb h.row256 h.n2,h.rg]
theorem Dr.rowk {d:AI} (h:Dr d) {i:Int} (h0:0≤i) (h1:i<(d.f1.length:Int)):((AA d.f1 i).length:Int)=EA d.f0:=h.row _ (Al h0 h1)
theorem Dr.entk {d:AI} (h:Dr d) {i c:Int} (h0:0≤i) (h1:i<(d.f1.length:Int)) (c0:0≤c) (c1:c<((AA d.f1 i).length:Int)): -1≤AA (AA d.f1 i) c∧AA (AA d.f1 i) c<(d.f1.length:Int):=h.ent _ (Al h0 h1) _ (Al c0 c1)
theorem XE (kk:Nat→ByteArray):∀ n c:Nat,c<nc kk n→∃ b,b<n∧rc kk b=b∧nc kk b=c
 | 0,c,h=>by rw[nc]at h;omega
 | n+1,c,h=>by
   rw[nc]at h;by_cases q:c<nc kk n
   ·obtain⟨b,b1,b2⟩:=XE kk n c q;exact⟨b,by omega,b2⟩
   ·by_cases r:rc kk n=n
    ·rw[if_pos r]at h;exact⟨n,by omega,r,by omega⟩
    ·rw[if_neg r]at h;omega
theorem NG (n:Ar) (bs:List Nat) (B:Nat):∀ (f i:Nat) (R:List (List Bool)) (N:List (List Int)) (R':List (List Bool)) (N':List (List Int)),i≤B→Gg n bs B f i R N=some (R',N')→R'.length≤B
 | 0,_,_,_,_,_,_,h=>by cases h
 | f+1,i,R,N,R',N',hi,h=>by
   rw[Gg]at h;split at h
   ·next a=>
    split at h
    ·cases h
    ·exact NG n bs B f (i+1) _ _ _ _ (by omega) h
   ·cases h;omega
section
variable {kk:Nat→ByteArray} {v:Vector Int 256} (hv:∀ c:Nat,c<256→AZ v (c:Int)=(ck kk c:Int))
include hv
theorem WJ:VB v:=by
 intro c;have e:AZ v c=AZ v ((c.toNat:Nat):Int):=by unfold AZ;rw[Int.toNat_natCast]
 rw[e];by_cases h:c.toNat<256
 ·rw[hv _ h];have:=Fl kk c.toNat;omega
 ·have:AZ v ((c.toNat:Nat):Int)=0:=by
   unfold AZ;rw[Int.toNat_natCast,List.getD,List.getElem?_eq_none (by rw[Vector.length_toList];omega)];rfl
  rw[this];omega
theorem XR:EA v=(nc kk 256:Int):=by
 have h1:=F6 (WJ hv);have h2:=JI kk v hv 256 0 20000 (by omega) (by omega);have h2:Wk 20000 v=some (nc kk 256:Int):=h2;rw[h1]at h2;exact Option.some.inj h2
end
theorem Qq {M:List Int} (hM:∀ m∈M,m<32768) (t:List Bool):∀ (m i:Nat) (o:Int), -1≤o→o<32768→ -1≤M5 M t m i o∧M5 M t m i o<32768
 | 0,_,_,h1,h2=>⟨h1,h2⟩
 | m+1,i,o,h1,h2=>by
   rw[M5];have: -1≤QW M t i o∧QW M t i o<32768:=by
    unfold QW;split
    ·next h=>
     have:=hM _ (Al (l:=M) (i:=(i:Int)) (by omega) (by omega));omega
    ·exact⟨h1,h2⟩
   exact Qq hM t m (i+1) _ this.1 this.2
theorem YQ {n:Ar} {kk:Nat→ByteArray} {v:Vector Int 256} (hv:∀ c:Nat,c<256→AZ v (c:Int)=(ck kk c:Int)) {R':List (List Bool)} {N':List (List Int)} (hm:Gg n (RP kk) 2000 20000 0 [F0 n] []=some (R',N')) {M:List Int} (hM:∀ m∈M,m<32768):Dr (AI.mk v N' (R'.map (MK M))):=by
 obtain⟨⟨hT,hT2⟩,hR,_⟩:=ID n (RP kk) 2000 20000 0 [F0 n] [] R' N' (by simp) ⟨rfl,fun q hq=>by omega⟩ (fun r hr=>by rw[List.mem_singleton.1 hr];exact F5 n) (by simp;omega) hm;have hB:=NG n (RP kk) 2000 20000 0 [F0 n] [] R' N' (by omega) hm;have h0:R'[0]? =some (F0 n):=hR 0 _ rfl;have hl0:0<R'.length:=(List.getElem?_eq_some_iff.1 h0).1;have hk:=XR hv;have hrl:(RP kk).length=nc kk 256:=by
  have:=GS kk 256 0;unfold RP;rw[Nat.zero_add,nc]at this;omega
 have hrow:∀ r∈N',∃ q:Nat,q<R'.length∧∃ s,R'[q]? =some s∧r.length=(RP kk).length∧∀ c:Nat,c<(RP kk).length→∃ t:Int,r[c]? =some t∧(Cb (CL n (MV n s ((RP kk).getD c 0)))=false→t= -1)∧(Cb (CL n (MV n s ((RP kk).getD c 0)))=true→∃ p:Nat,t=(p:Int)∧R'[p]? =some (CL n (MV n s ((RP kk).getD c 0)))):=by
  intro r hr;obtain⟨q,hq,rfl⟩:=List.getElem_of_mem hr;obtain⟨s,row,a1,a2,a3,a4⟩:=hT2 q (by omega);rw[List.getElem?_eq_getElem hq]at a2;obtain rfl:=Option.some.inj a2;exact⟨q,by omega,s,a1,a3,a4⟩
 refine⟨by show 1≤N'.length;omega,by show N'.length≤2000;omega,by show (R'.map (MK M)).length=N'.length;rw[List.length_map];omega,WJ hv,fun c hc=>?_,fun r hr=>?_,fun r hr x hx=>?_,fun m hm=>?_⟩
 ·have hc:(c:Int)<EA v:=hc;rw[hk]at hc;obtain⟨b,b1,b2,b3⟩:=XE kk 256 c (by omega);refine⟨b,b1,?_⟩;show AZ v (b:Int)=c;rw[hv b b1];unfold ck;rw[b2,b3]
 ·obtain⟨q,q1,s,q2,q3,q4⟩:=hrow r hr;show (r.length:Int)=EA v;rw[hk,q3,hrl]
 ·obtain⟨q,q1,s,q2,q3,q4⟩:=hrow r hr;obtain⟨c,hc,rfl⟩:=List.getElem_of_mem hx;obtain⟨t,t1,t2,t3⟩:=q4 c (by omega);rw[List.getElem?_eq_getElem hc]at t1;obtain rfl:=Option.some.inj t1;show -1≤r[c]∧r[c]<(N'.length:Int)
  cases e:Cb (CL n (MV n s ((RP kk).getD c 0)))with
  | false=>rw[t2 e];omega
  | true=>
    obtain⟨p,p1,p2⟩:=t3 e;have:=(List.getElem?_eq_some_iff.1 p2).1;rw[p1];omega
 ·obtain⟨s,_,rfl⟩:=List.mem_map.1 hm;exact Qq hM s s.length 0 (-1) (by omega) (by omega)
theorem UT {t:List Bool} (h:Cb t=false) (q:Int):AA t q=false:=by
 unfold AA;rw[List.getD]
 cases e:t[q.toNat]? with
 | none=>rfl
 | some b=>
   cases b with
   | false=>rfl
   | true=>
     have:Cb t=true:=by unfold Cb;rw[List.any_eq_true];exact⟨true,List.mem_of_getElem? e,rfl⟩
     rw[h]at this;cases this
theorem YC {t:List Bool} (h:∀ q:Int,0≤q→AA t q=true→False):Cb t=false:=by
 cases e:Cb t with
 | false=>rfl
 | true=>
   unfold Cb at e;rw[List.any_eq_true]at e;obtain⟨b,hb,e⟩:=e;obtain⟨i,hi,rfl⟩:=List.getElem_of_mem hb;exact(h (i:Int) (by omega) (by rw[Ae _ i hi];exact e)).elim
theorem VM {n:Ar} (h:Rt n) {s:List Bool} (hs:Cb s=false) (b:Nat):Cb (CL n (MV n s b))=false:=by
 refine YC fun q hq hl=>?_;obtain⟨p,p0,p1,_⟩:=(GD h (L8 n s b) hq).1 hl;obtain⟨e,_,_,_,e3,_⟩:=(PC h s b p0).1 p1;rw[UT hs]at e3;cases e3
theorem Oa (x:List Bool) (b c:Nat):∀ (l:List AR) (o:List Bool),(∀ e∈l,e.f3=false→tb e.f2 b=tb e.f2 c)→l.foldl (NM x b) o=l.foldl (NM x c) o
 | [],_,_=>rfl
 | e::l,o,h=>by
   have e1:NM x b o e=NM x c o e:=by
    unfold NM;by_cases k:e.f3=false
    ·rw[h e (by simp) k]
    ·rw[if_neg (fun q=>k q.1),if_neg (fun q=>k q.1)]
   rw[List.foldl_cons,List.foldl_cons,e1];exact Oa x b c l _ fun e' h'=>h e' (by simp[h'])
theorem Sd {n:Ar} {kk:Nat→ByteArray} (hk:CK n kk) (x:List Bool) {b:Nat} (hb:b<256):MV n x (rc kk b)=MV n x b:=by
 have hs:=A6 kk b;exact Oa x _ _ n.f1 _ fun e he h3=>hk.tb (by omega) hb hs.2.1 _ (Po he h3)
theorem Y6 {M:List Int} {t:List Bool} (h:Cb t=false):MK M t= -1:=by
 have:∀ (m i:Nat),M5 M t m i (-1)= -1:=by
  intro m
  induction m with
  | zero=>intro i;rfl
  | succ m ih=>
    intro i;have e:QW M t i (-1)= -1:=by unfold QW;rw[if_neg (by rintro⟨q,_⟩;rw[UT h]at q;cases q)]
    rw[M5,e];exact ih (i+1)
 exact this _ _
def I0 (R:List (List Bool)) (S:List Bool) (x:Int):Prop:=(∃ p:Nat,x=(p:Int)∧R[p]? =some S)∨(x= -1∧Cb S=false)
theorem Vc {n:Ar} (h:Rt n) {kk:Nat→ByteArray} (hk:CK n kk) {v:Vector Int 256} (hv:∀ c:Nat,c<256→AZ v (c:Int)=(ck kk c:Int)) {N:List (List Int)} {R:List (List Bool)} {K:List Int} (ht:Zl n (RP kk) R R.length N) {S:List Bool} {x:Int} (hx:I0 R S x) {b:Nat} (hb:b<256):I0 R (CL n (MV n S b)) (stp (AI.mk v N K) x (b:Int)):=by
 rcases hx with⟨p,rfl,hp⟩|⟨rfl,hp⟩
 ·obtain⟨g1,g2⟩:=List.getElem?_eq_some_iff.1 hp;have hg:=X6 kk hb;obtain⟨k1,k2⟩:=List.getElem?_eq_some_iff.1 hg;obtain⟨st,row,r1,r2,r3,r4⟩:=ht.2 p g1;rw[hp]at r1;obtain rfl:S=st:=Option.some.inj r1;obtain⟨t,t1,t2,t3⟩:=r4 (ck kk b) k1;have egd:(RP kk).getD (ck kk b) 0=rc kk b:=by rw[List.getD,hg];rfl
  rw[egd,Sd hk _ hb]at t2 t3;obtain⟨n1,n2⟩:=List.getElem?_eq_some_iff.1 r2;obtain⟨m1,m2⟩:=List.getElem?_eq_some_iff.1 t1;have eN:AA N (p:Int)=row:=by rw[Ae _ p n1];exact n2
  have et:AA row ((ck kk b:Nat):Int)=t:=by rw[Ae _ _ m1];exact m2
  have es:stp (AI.mk v N K) (p:Int) (b:Int)=t:=by
   show (if(p:Int)<0∨(N.length:Int)≤(p:Int)∨((AA N (p:Int)).length:Int)≤AZ v (b:Int)then -1 else AA (AA N (p:Int)) (AZ v (b:Int)))=t;rw[hv b hb,eN,if_neg (by omega),et]
  rw[es]
  cases e:Cb (CL n (MV n S b))with
  | false=>exact .inr ⟨t2 e,e⟩
  | true=>exact .inl (t3 e)
 ·rw[Bo];exact .inr ⟨rfl,VM h hp b⟩
def Xq (d:AI) (x:Int) (w:List Nat):Int:=w.foldl (fun (x:Int) (b:Nat)=>stp d x (b:Int)) x
theorem Sy {n:Ar} (h:Rt n) {kk:Nat→ByteArray} (hk:CK n kk) {v:Vector Int 256} (hv:∀ c:Nat,c<256→AZ v (c:Int)=(ck kk c:Int)) {N:List (List Int)} {R:List (List Bool)} {K:List Int} (ht:Zl n (RP kk) R R.length N):∀ (w:List Nat) (S:List Bool) (x:Int),(∀ b∈w,b<256)→I0 R S x→I0 R (fS n S w) (Xq (AI.mk v N K) x w)
 | [],S,x,_,hx=>hx
 | b::w,S,x,hw,hx=>Sy h hk hv ht w _ _ (fun c hc=>hw c (by simp[hc])) (Vc h hk hv ht hx (hw b (by simp)))
theorem VP {R:List (List Bool)} {S:List Bool} {x:Int} (hx:I0 R S x) (v:Vector Int 256) (N:List (List Int)) (M:List Int):mk (AI.mk v N (R.map (MK M))) x=MK M S:=by
 rcases hx with⟨p,rfl,hp⟩|⟨rfl,hp⟩
 ·obtain⟨g1,g2⟩:=List.getElem?_eq_some_iff.1 hp;have e1:(R.map (MK M))[p]? =some (MK M S):=by rw[List.getElem?_map,hp];rfl
  show (if(p:Int)<0∨((R.map (MK M)).length:Int)≤(p:Int)then -1 else AA (R.map (MK M)) (p:Int))=_;rw[if_neg (by rw[List.length_map];omega)];exact(Dh e1).1
 ·rw[DJ,Y6 hp]
theorem Qy {n:Ar} (h:Rt n) (M:List Int) (hM:∀ m∈M,m<32768):∃ d e,Xz 20000 n M=some (d,e)∧((e=6∧d.f1=[])∨e=0∧Dr d∧∀ w:List Nat,(∀ b∈w,b<256)→mk d (Xq d 0 w)=MK M (fS n (F0 n) w)):=by
 obtain⟨kk,hk⟩:=Yw n h.n2 h.u;obtain⟨v,v1,v2⟩:=YJ h hk M;rw[v2]
 cases hm:Gg n (RP kk) 2000 20000 0 [F0 n] []with
 | none=>exact⟨_,_,rfl,.inl ⟨rfl,rfl⟩⟩
 | some x=>
   obtain⟨R',N'⟩:=x;refine⟨_,_,rfl,.inr ⟨rfl,YQ v1 hm hM,fun w hw=>?_⟩⟩;obtain⟨hT,hR,_⟩:=ID n (RP kk) 2000 20000 0 [F0 n] [] R' N' (by simp) ⟨rfl,fun q hq=>by omega⟩ (fun r hr=>by rw[List.mem_singleton.1 hr];exact F5 n) (by simp;omega) hm;exact VP (Sy h hk v1 hT w (F0 n) 0 hw (.inl ⟨0,rfl,hR 0 _ rfl⟩)) _ _ _
theorem UI {t:Rx} (ht:HC t) (hz:(Ac t).length≤200):∃ d e,RY 20000 (gN t)=some (d,e)∧((e=6∧d.f1=[])∨e=0∧Dr d∧∀ w:List Nat,(∀ b∈w,b<256)→(Lx t w→mk d (Xq d 0 w)=0)∧(¬ Lx t w→mk d (Xq d 0 w)= -1)):=by
 have h:=P3 ht hz;have lang:=VG ht hz;generalize hn0:gN t=n at h lang;have hla:n.f3=gO t 0:=by rw[←hn0];rfl
 have hf:=h.first;have hl:=h.last;have hn:=h.nn;have h1:=h.n1;have hN:NN n≤8000:=by omega
 have e3:n.f3=((n.f3.toNat:Nat):Int):=by omega
 obtain⟨y,y1,y3,y2⟩:=Pv n hN (by omega) (NN n) 0 20000 (List.replicate (NN n) 0) (by omega) (by omega) (by simp) (fun q hq=>by omega);have y2:Cx 20000 n 20000 (List.replicate (NN n) 0) (0:Int)=GM 20000 n y:=y2;have hy:∀ q:Nat,q<NN n→AA (AU y n.f3 0) (q:Int)=if q=n.f3.toNat then 0 else -1:=fun q hq=>by
  rw[e3,FJ _ _ _ _ (by omega),Int.toNat_natCast];by_cases c:q=n.f3.toNat
  ·rw[if_pos c,if_pos c]
  ·rw[if_neg c,if_neg c];exact y3 q (by omega)
 obtain⟨d,e,k1,k2⟩:=Qy h (AU y n.f3 0) (fun m hm=>by
  obtain⟨j,hj,rfl⟩:=Cc hm;rw[Au]at hj;rw[hy j (by omega)]
  split<;>omega)
 refine⟨d,e,?_,?_⟩
 ·unfold RY;rw[M9 n h.n2,Option.bind_some,h.rt,if_neg (by decide),if_pos ⟨by omega,by omega,by omega⟩,show n.f0.toNat=NN n from rfl,y2];unfold GM;rw[if_pos ⟨by omega,by omega⟩,k1,Option.bind_some]
 ·rcases k2 with k2|⟨k2,k3,k4⟩
  ·exact .inl k2
  ·refine .inr ⟨k2,k3,fun w hw=>?_⟩;have hFl:=Pt (F5 n) w;have:=Qf (M:=AU y n.f3 0) (t:=fS n (F0 n) w) (la:=n.f3.toNat) (by rw[Au,y1,hFl]) (by omega) (fun q hq=>hy q (by omega)) (fS n (F0 n) w).length 0 (-1) (by omega) (.inl rfl);rw[k4 w hw];unfold MK;rw[this, ←e3,hla, ←lang w];exact⟨fun c=>if_pos (.inr ⟨by omega,c⟩),fun c=>if_neg (by rintro (f|f);omega;exact c f.2)⟩
theorem Sf {t:Rx} (ht:HC t) (hz:(Ac t).length≤200):∃ d e,RY 20000 (gN t)=some (d,e)∧(e=6∨e=0∧(0≤mk d 0↔Lx t [])):=by
 obtain⟨d,e,k1,k2⟩:=UI ht hz;refine⟨d,e,k1,?_⟩;rcases k2 with⟨k2,_⟩|⟨k2,_,k3⟩
 ·exact .inl k2
 ·obtain⟨a,b⟩:=k3 [] (fun _ h=>by cases h);have a:Lx t []→mk d 0=0:=a;have b:¬ Lx t []→mk d 0= -1:=b;refine .inr ⟨k2,fun h=>?_,fun h=>by rw[a h];omega⟩;exact Classical.byContradiction fun c=>by rw[b c]at h;omega
theorem Mc {kk:Nat→ByteArray} {r:Nat} (h:rc kk r=r) {b:Nat} (hb:r<b):nc kk r<nc kk b:=by
 have h1:nc kk (r+1)=nc kk r+1:=by rw[nc,if_pos h]
 have h2:=HE kk (show r+1≤b by omega);omega
theorem JE {kk:Nat→ByteArray} {i j:Nat}:ck kk i=ck kk j↔kk i=kk j:=by
 constructor
 ·intro h;unfold ck at h;have hi:=Fk kk i;have hj:=Fk kk j;have e:rc kk i=rc kk j:=by
   rcases Nat.lt_trichotomy (rc kk i) (rc kk j)with k|k|k
   ·have:=Mc hi k;omega
   ·exact k
   ·have:=Mc hj k;omega
  rw[←(A6 kk i).2.1,e,(A6 kk j).2.1]
 ·intro h;exact C2 kk h
theorem NL {kk:Nat→ByteArray} {i N:Nat} (h:i<N):ck kk i<nc kk N:=by
 unfold ck;exact Mc (Fk kk i) (by have:=(A6 kk i).1;omega)
theorem SW {kk kk':Nat→ByteArray} (h:∀ i j,kk' i=kk' j→kk i=kk j) {r:Nat} (hr:rc kk r=r):rc kk' r=r:=by
 refine Q4 kk' rfl fun c hc e=>?_;have:=(A6 kk r).2.2 c (by rw[hr];exact hc);exact this (h c r e)
theorem IY {kk kk':Nat→ByteArray} (h:∀ i j,kk' i=kk' j→kk i=kk j):∀ b,nc kk b≤nc kk' b
 | 0=>Nat.le_refl _
 | b+1=>by
   have ih:=IY h b;rw[nc,nc];by_cases q:rc kk b=b
   ·rw[if_pos q,if_pos (SW h q)];omega
   ·rw[if_neg q];omega
theorem MF {kk kk':Nat→ByteArray} (h:∀ i j,kk' i=kk' j→kk i=kk j):∀ (m b:Nat),nc kk (b+m)=nc kk' (b+m)→nc kk b=nc kk' b
 | 0,_,e=>e
 | m+1,b,e=>by
   have h1:nc kk (b+m)=nc kk' (b+m):=by
    have h2:=IY h (b+m);have e':nc kk (b+m+1)=nc kk' (b+m+1):=e;rw[nc,nc]at e';by_cases q:rc kk (b+m)=b+m
    ·rw[if_pos q,if_pos (SW h q)]at e';omega
    ·rw[if_neg q]at e';split at e'<;>omega
   exact MF h m b h1
theorem NU {kk kk':Nat→ByteArray} (h:∀ i j,kk' i=kk' j→kk i=kk j) {N:Nat} (e:nc kk N=nc kk' N) {r:Nat} (hN:r<N) (hr:rc kk' r=r):rc kk r=r:=by
 have e1:=MF h (N-r) r (by rw[show r+(N-r)=N by omega];exact e);have e2:=MF h (N - (r+1)) (r+1) (by rw[show r+1+(N - (r+1))=N by omega];exact e);rw[nc,nc,if_pos hr]at e2;by_cases q:rc kk r=r
 ·exact q
 ·rw[if_neg q]at e2;omega
theorem Ki {kk kk':Nat→ByteArray} (h:∀ i j,kk' i=kk' j→kk i=kk j) {N:Nat} (e:nc kk N=nc kk' N) {i j:Nat} (hi:i<N) (hj:j<N) (k:kk i=kk j):kk' i=kk' j:=by
 have si:=A6 kk' i;have sj:=A6 kk' j;have ri:=NU h e (show rc kk' i<N by omega) (Fk kk' i);have rj:=NU h e (show rc kk' j<N by omega) (Fk kk' j);have k1:kk (rc kk' i)=kk (rc kk' j):=by rw[h _ _ si.2.1,h _ _ sj.2.1,k]
 have:=Ig kk k1;rw[ri,rj]at this;rw[←si.2.1,this,sj.2.1]
abbrev Bl (d:AI) (p:Int):List Int:=AA d.f1 p
inductive DR (d:AI) (s:Int):Int→Prop
 | refl:DR d s s
 | step {p:Int} {c:Nat}:DR d s p→(c:Int)<((Bl d p).length:Int)→0≤AA (Bl d p) (c:Int)→DR d s (AA (Bl d p) (c:Int))
theorem DR.in {d:AI} (h:Dr d) {s q:Int} (hs:0≤s∧s<(d.f1.length:Int)) (k:DR d s q):0≤q∧q<(d.f1.length:Int):=by
 induction k with
 | refl=>exact hs
 | step _ hc h0 ih=>exact⟨h0,(h.entk ih.1 ih.2 (by omega) hc).2⟩
theorem DR.trans {d:AI} {s p q:Int} (h:DR d s p) (k:DR d p q):DR d s q:=by
 induction k with
 | refl=>exact h
 | step _ hc h0 ih=>exact .step ih hc h0
theorem LE.set {x:List Bool} {i:Int} (h0:0≤i) (h1:i<(x.length:Int)):LE x (AU x i true):=fun q hq h=>by
 rw[CJ x i q true h0 h1 hq];split
 ·rfl
 ·exact h
def dA (s:List Bool×List Int) (q:Int):List Bool×List Int:=if 0≤q∧AA s.1 q=false then(AU s.1 q true,s.2++[q])else s
def ps (l:List Int) (s:List Bool×List Int):List Bool×List Int:=l.foldl dA s
theorem PS {x:List Bool} {n:Nat} (h:x.length=n):cnt x≤n:=h▸Jv x
def sL (l:List Int) (x:List Bool):List Bool:=l.foldl (fun x q=>if 0≤q then AU x q true else x) x
def rp (d:AI) (i:Nat) (x:List Bool):List Bool:=if AA x (i:Int)=true then sL (Bl d i) x else x
theorem XV {d:AI} (h:Dr d) {p:Int} (h0:0≤p) (h1:p<(d.f1.length:Int)):∀ q∈Bl d p,q<(d.f1.length:Int):=fun q hq=>(h.ent _ (Al h0 h1) q hq).2
def AL (d:AI) (i:Int):Prop:=∃ q,DR d i q∧0≤mk d q
def AS (d:AI) (A:List Bool):Prop:=A.length=d.f1.length∧∀ q,0≤q→q<(d.f1.length:Int)→(AA A q=true↔AL d q)
def M6 (d:AI) (x:List Bool) (r:List Int):Bool:=r.any fun q=>decide (0≤q)&&AA x q
def ap (d:AI) (i:Nat) (s:List Bool×Bool):List Bool×Bool:=if AA s.1 (i:Int)=true then s else if M6 d s.1 (Bl d i)=true then(AU s.1 (i:Int) true,true)else s
def Io (d:AI):Nat→Nat→List Bool×Bool→List Bool×Bool
 | 0,_,s=>s
 | m+1,i,s=>Io d m (i+1) (ap d i s)
theorem LT (d:AI) (i:Nat) (s:List Bool×Bool):(ap d i s).1.length=s.1.length:=by
 unfold ap;split
 ·rfl
 ·split
  ·exact Au _ _ _
  ·rfl
theorem Qu (d:AI):∀ (m i:Nat) (s:List Bool×Bool),(Io d m i s).1.length=s.1.length
 | 0,_,_=>rfl
 | m+1,i,s=>by rw[Io,Qu d m,LT]
theorem Xb {d:AI} {i:Nat} (hi:i<d.f1.length) {s:List Bool×Bool} (hs:s.1.length=d.f1.length):ap d i s=s∨((ap d i s).2=true∧cnt (ap d i s).1=cnt s.1+1):=by
 unfold ap;split
 ·exact .inl rfl
 ·rename_i a;split
  ·refine .inr ⟨rfl,?_⟩;have hi':i<s.1.length:=by omega
   refine Ly s.1 i hi' ?_;have:AA s.1 (i:Int)=false:=by simpa using a
   rw[Ae _ i hi']at this;rw[List.getElem?_eq_getElem hi',this]
  ·exact .inl rfl
theorem Qb {d:AI}:∀ (m i:Nat) (s:List Bool×Bool),i+m=d.f1.length→s.1.length=d.f1.length→Io d m i s=s∨((Io d m i s).2=true∧cnt s.1<cnt (Io d m i s).1)
 | 0,_,_,_,_=>.inl rfl
 | m+1,i,s,hi,hs=>by
   rw[Io];have ih:=Qb (d:=d) m (i+1) (ap d i s) (by omega) (by rw[LT];exact hs);rcases Xb (d:=d) (i:=i) (by omega) hs with q|⟨q1,q2⟩
   ·rw[q]at ih⊢;exact ih
   ·rcases ih with r|⟨r1,r2⟩
    ·rw[r];exact .inr ⟨q1,by omega⟩
    ·exact .inr ⟨r1,by omega⟩
theorem NZ (d:AI):∀ (m i:Nat) (s:List Bool×Bool),s.2=true→(Io d m i s).2=true
 | 0,_,_,h=>h
 | m+1,i,s,h=>by
   rw[Io];refine NZ d m (i+1) _ ?_;unfold ap;split
   ·exact h
   ·split
    ·rfl
    ·exact h
theorem JS (d:AI):∀ (m i:Nat) (x:List Bool),(Io d m i (x,false)).2=false→(Io d m i (x,false)).1=x∧∀ j:Nat,i≤j→j<i+m→M6 d x (Bl d j)=true→AA x (j:Int)=true
 | 0,i,x,_=>⟨rfl,fun j h1 h2=>by omega⟩
 | m+1,i,x,h=>by
   rw[Io]at h⊢
   have hs:ap d i (x,false)=(x,false)∧(M6 d x (Bl d i)=true→AA x (i:Int)=true):=by
    by_cases c:AA x (i:Int)=true
    ·exact⟨by unfold ap;rw[if_pos c],fun _=>c⟩
    ·by_cases e:M6 d x (Bl d i)=true
     ·have hf:(ap d i (x,false)).2=true:=by unfold ap;rw[if_neg c,if_pos e]
      rw[NZ d m (i+1) _ hf]at h;cases h
     ·exact⟨by unfold ap;rw[if_neg c,if_neg e],fun q=>absurd q e⟩
   rw[hs.1]at h⊢
   obtain⟨k1,k2⟩:=JS d m (i+1) x h;refine⟨k1,fun j h1 h2 h3=>?_⟩;by_cases e:j=i
   ·subst e;exact hs.2 h3
   ·exact k2 j (by omega) (by omega) h3
theorem P0 {d:AI} (h:Dr d) {x:List Bool} {i:Nat} (hi:i<d.f1.length):M6 d x (Bl d i)=true↔∃ c:Nat,(c:Int)<((Bl d i).length:Int)∧0≤AA (Bl d i) (c:Int)∧AA x (AA (Bl d i) (c:Int))=true:=by
 unfold M6;rw[List.any_eq_true];constructor
 ·rintro⟨q,hq,hh⟩;simp only[Bool.and_eq_true,decide_eq_true_eq]at hh;obtain⟨c,hc,rfl⟩:=Cc hq;exact⟨c,by omega,hh.1,hh.2⟩
 ·rintro⟨c,hc,h0,hg⟩;exact⟨_,Al (by omega) hc,by simp[h0,hg]⟩
theorem X0 {d:AI} (h:Dr d) {i:Nat} (hi:i<d.f1.length) {s:List Bool×Bool} (hs:s.1.length=d.f1.length) (hq:∀ q,0≤q→AA s.1 q=true→AL d q):∀ q,0≤q→AA (ap d i s).1 q=true→AL d q:=by
 intro q h0 hg;unfold ap at hg;split at hg
 ·exact hq q h0 hg
 ·split at hg
  ·rename_i c;have hg':AA (AU s.1 (i:Int) true) q=true:=hg;rw[CJ s.1 i q true (by omega) (by omega) h0]at hg';by_cases e:q=(i:Int)
   ·subst e;obtain⟨c,hc,k0,kg⟩:=(P0 h hi).1 c;obtain⟨r,r1,r2⟩:=hq _ k0 kg;exact⟨r,(DR.step .refl hc k0).trans r1,r2⟩
   ·rw[if_neg e]at hg';exact hq q h0 hg'
  ·exact hq q h0 hg
theorem QA {d:AI} (h:Dr d):∀ (m i:Nat) (s:List Bool×Bool),i+m=d.f1.length→s.1.length=d.f1.length→(∀ q,0≤q→AA s.1 q=true→AL d q)→∀ q,0≤q→AA (Io d m i s).1 q=true→AL d q
 | 0,_,_,_,_,hq=>hq
 | m+1,i,s,hi,hs,hq=>by
   rw[Io];exact QA h m (i+1) _ (by omega) (by rw[LT];exact hs) (X0 h (by omega) hs hq)
theorem Ss {d:AI}:∀ (m i:Nat) (s:List Bool×Bool),i+m=d.f1.length→s.1.length=d.f1.length→LE s.1 (Io d m i s).1
 | 0,_,s,_,_=>LE.refl _
 | m+1,i,s,hi,hs=>by
   rw[Io];refine LE.trans ?_ (Ss m (i+1) _ (by omega) (by rw[LT];exact hs));unfold ap;split
   ·exact LE.refl _
   ·split
    ·exact LE.set (by omega) (by omega)
    ·exact LE.refl _
theorem Nw {d:AI} (h:Dr d) (rec15:List Bool→Bool→Int→Option (List Bool)) (x:List Bool) (b:Bool) (i:Nat) (hi:i<d.f1.length) (hx:x.length=d.f1.length):∀ (m c fuel:Nat),c+m=(Bl d i).length→m<fuel→
 FV 20000 rec15 d x b (i:Int) fuel (c:Int)=if M6 d x ((Bl d i).drop c)=true then EX 20000 rec15 (i:Int) (AU x (i:Int) true) true else EX 20000 rec15 (i:Int) x b
 | 0,c,f+1,hc,_=>by
   have hcn:¬ (c:Int)<((AA d.f1 (i:Int)).length:Int):=by
    have:¬ (c:Int)<((Bl d i).length:Int):=by omega
    exact this
   rw[FV.eq_2,if_neg hcn,List.drop_of_length_le (by omega)];rfl
 | m+1,c,f+1,hc,hf=>by
   have hc':c<(Bl d i).length:=by omega
   have hcI:(c:Int)<((AA d.f1 (i:Int)).length:Int):=by
    have:(c:Int)<((Bl d i).length:Int):=by omega
    exact this
   have he:=h.entk (i:=(i:Int)) (by omega) (by omega) (c:=(c:Int)) (by omega) hcI;have h256:(Bl d i).length≤256:=h.row256 _ (Al (l:=d.f1) (i:=(i:Int)) (by omega) (by omega));have ge:AA (AA d.f1 (i:Int)) (c:Int)=(Bl d i)[c]:=Ae (Bl d i) c hc';have ih:=Nw h rec15 x b i hi hx m (c+1) f (by omega) (by omega);rw[FV.eq_2,if_pos hcI,if_pos ⟨by omega,hcI⟩,List.drop_eq_getElem_cons hc'];show _=if((decide (0≤(Bl d i)[c])&&AA x (Bl d i)[c])||M6 d x ((Bl d i).drop (c+1)))=true then _ else _
   rw[←ge];generalize AA (AA d.f1 (i:Int)) (c:Int)=q at he;by_cases a:0≤q
   ·rw[if_pos a,if_pos (by omega),if_pos ⟨a,by omega⟩,Option.bind_some,decide_eq_true a,Bool.true_and]
    cases AA x q with
    | true=>rw[if_pos rfl,if_pos ⟨by omega,by omega⟩,Bool.true_or,if_pos rfl]
    | false=>
      rw[if_neg (by decide),Bool.false_or,CQ (by omega) (by omega)];exact_mod_cast ih
   ·rw[if_neg a,Option.bind_some,if_neg (by decide),decide_eq_false a,Bool.false_and,Bool.false_or,CQ (by omega) (by omega)];exact_mod_cast ih
theorem M8 {d:AI} (h:Dr d) (rec9:List Bool→Bool→Option (List Bool)):∀ (m i fuel:Nat) (x:List Bool) (b:Bool),i+m=d.f1.length→m<fuel→x.length=d.f1.length→
 Dn 20000 rec9 d fuel x b (i:Int)=rec9 (Io d m i (x,b)).1 (Io d m i (x,b)).2
 | 0,i,f+1,x,b,hi,_,hx=>by
   rw[Dn.eq_2,if_neg (by omega)];rfl
 | m+1,i,f+1,x,b,hi,hf,hx=>by
   have hn:=h.n2;have h256:(Bl d i).length≤256:=h.row256 _ (Al (l:=d.f1) (i:=(i:Int)) (by omega) (by omega));have ih:=fun y b hy=>M8 h rec9 m (i+1) f y b (by omega) (by omega) hy;rw[Dn.eq_2,if_pos (by omega),if_pos ⟨by omega,by omega⟩,if_pos ⟨by omega,by omega⟩,Io];unfold ap;by_cases a:AA x (i:Int)=true
   ·rw[if_pos a,if_pos a,EX,CQ (by omega) (by omega)];exact_mod_cast ih x b hx
   ·have e:=Nw h (Dn 20000 rec9 d f) x b i (by omega) hx (Bl d i).length 0 20000 (by omega) (by omega);rw[Int.natCast_zero,List.drop_zero]at e;rw[if_neg a,if_neg a,e];by_cases c:M6 d x (Bl d i)=true
    ·rw[if_pos c,if_pos c,EX,CQ (by omega) (by omega)];exact_mod_cast ih _ true (by rw[Au];exact hx)
    ·rw[if_neg c,if_neg c,EX,CQ (by omega) (by omega)];exact_mod_cast ih x b hx
theorem OB {d:AI} (h:Dr d):∀ (m:Nat) (x:List Bool),x.length=d.f1.length→d.f1.length-cnt x+1<m→(∀ q,0≤q→AA x q=true→AL d q)→
 ∃ A,EZ 20000 d m x true=some A∧A.length=d.f1.length∧LE x A∧(∀ q,0≤q→AA A q=true→AL d q)∧∀ j:Nat,j<d.f1.length→M6 d A (Bl d j)=true→AA A (j:Int)=true
 | m+1,x,hx,hm,hq=>by
   have hn:=h.n2;rw[EZ.eq_2,if_pos rfl];have e:=M8 h (EZ 20000 d m) d.f1.length 0 20000 x false (by omega) (by omega) hx;rw[Int.natCast_zero]at e;rw[e];have hp:(Io d d.f1.length 0 (x,false)).1.length=x.length:=Qu d _ _ (x,false);have hle:LE x (Io d d.f1.length 0 (x,false)).1:=Ss d.f1.length 0 (x,false) (by omega) hx;have hsn:=QA h d.f1.length 0 (x,false) (by omega) hx hq;by_cases q:(Io d d.f1.length 0 (x,false)).2=true
   ·rw[q];rcases Qb (d:=d) d.f1.length 0 (x,false) (by omega) hx with r|⟨_,r⟩
    ·rw[r]at q;cases q
    ·have r':cnt x<cnt (Io d d.f1.length 0 (x,false)).1:=r;have hc:=PS (hp.trans hx);obtain⟨A,a1,a2,a3,a4,a5⟩:=OB h m _ (hp.trans hx) (by omega) hsn;exact⟨A,a1,a2,hle.trans a3,a4,a5⟩
   ·have q':(Io d d.f1.length 0 (x,false)).2=false:=by simpa using q
    obtain⟨k1,k2⟩:=JS d d.f1.length 0 x q';rw[q',k1]
    cases m with
    | zero=>omega
    | succ m=>
      rw[EZ.eq_2,if_neg (by decide),Mu];exact⟨x,rfl,hx,LE.refl x,hq,fun j hj hh=>k2 j (by omega) (by omega) hh⟩
theorem NC {d:AI} (h:Dr d):∀ (m i fuel:Nat) (x:List Bool),i+m=d.f1.length→m<fuel→x.length=d.f1.length→(∀ j:Nat,j<i→AA x (j:Int)=decide (0≤mk d j))→
 ∃ y:List Bool,Ff 20000 d fuel x (i:Int)=Li 20000 d y∧y.length=d.f1.length∧∀ j:Nat,j<d.f1.length→AA y (j:Int)=decide (0≤mk d j)
 | 0,i,f+1,x,hi,_,hx,hq=>by
   rw[Ff.eq_2,if_neg (by simp;omega)];exact⟨x,rfl,hx,fun j hj=>hq j (by omega)⟩
 | m+1,i,f+1,x,hi,hf,hx,hq=>by
   have hn:=h.n2;rw[Ff.eq_2,if_pos (by simp;omega),QG,Option.bind_some,if_pos ⟨by omega,by omega⟩,CQ (by omega) (by omega)]
   have ih:=NC h m (i+1) f (AU x (i:Int) (decide (0≤mk d i))) (by omega) (by omega) (by rw[Au];exact hx) (fun j hj=>by
    rw[CJ x i j _ (by omega) (by omega) (by omega)];by_cases e:(j:Int)=(i:Int)
    ·rw[if_pos e,e]
    ·rw[if_neg e];exact hq j (by omega))
   exact_mod_cast ih
theorem TC {d:AI} (h:Dr d):∃ A,Za 20000 d=some A∧AS d A:=by
 have hn:=h.n2;unfold Za;rw[if_pos ⟨by omega,by omega,by omega⟩];obtain⟨y,y1,y2,y3⟩:=NC h d.f1.length 0 20000 (List.replicate (d.f1.length:Int).toNat false) (by omega) (by omega) (by simp) (fun j hj=>by omega);rw[Int.natCast_zero]at y1;have y4:∀ q,0≤q→AA y q=true→AL d q:=fun q h0 hg=>by
  obtain⟨j,rfl⟩:=Int.eq_ofNat_of_zero_le h0;by_cases hj:j<d.f1.length
  ·rw[y3 j hj]at hg;exact⟨_,.refl,of_decide_eq_true hg⟩
  ·have:AA y (j:Int)=false:=by
    unfold AA;rw[List.getD,List.getElem?_eq_none (by omega)];rfl
   rw[this]at hg;cases hg
 obtain⟨A,a1,a2,a3,a4,a5⟩:=OB h 20000 y y2 (by omega) y4;refine⟨A,by rw[y1];exact a1,a2,fun q h0 h1=>⟨a4 q h0,?_⟩⟩;rintro⟨r,k,hr⟩;have key:∀ s r,DR d s r→0≤s→s<(d.f1.length:Int)→AA A r=true→AA A s=true:=by
  intro s r k
  induction k with
  | refl=>exact fun _ _ hg=>hg
  | @step p c k hc k0 ih=>
    intro h0 h1 hg;have hp:=k.in h ⟨h0,h1⟩;obtain⟨j,rfl⟩:=Int.eq_ofNat_of_zero_le hp.1;exact ih h0 h1 (a5 j (by omega) ((P0 h (by omega)).2 ⟨c,hc,k0,hg⟩))
 refine key q r k h0 h1 ?_;have hrr:=k.in h ⟨h0,h1⟩;obtain⟨j,rfl⟩:=Int.eq_ofNat_of_zero_le hrr.1;exact a3 _ (by omega) (by rw[y3 j (by omega)];exact decide_eq_true hr)
theorem N9 {d:AI} (h:Dr d) {i:Int} (h0:0≤i) (h1:i<(d.f1.length:Int)):mk d i=AA d.f2 i:=by
 have:=h.ml;unfold mk;rw[if_neg (by omega)]
def tr (a:List Bool) (x:Int):Int:=if 0≤x∧AA a x=false then -1 else x
def GG (d:AI) (a:List Bool):AI:=AI.mk d.f0 (d.f1.map fun r=>r.map (tr a)) d.f2
theorem Lc (l:List Int) (i:Nat) (h:i<l.length):AA l (i:Int)=l[i]:=Ae l i h
theorem Py {d:AI} (rec12:List (List Int)→Int→Option AI) (a:List Bool) (acc:List (List Int)) (x11:Int) (t18:List Int) (ht:∀ q∈t18,q<(a.length:Int)) (hz:t18.length≤2000):∀ (m c fuel:Nat),c+m=t18.length→m<fuel→
 EL 20000 rec12 a acc x11 t18 fuel ((t18.take c).map (tr a)++t18.drop c) (c:Int)=Jy 20000 rec12 acc x11 (t18.map (tr a))
 | 0,c,f+1,hc,_=>by
   rw[EL.eq_2,if_neg (by omega),List.take_of_length_le (by omega),List.drop_of_length_le (by omega),List.append_nil]
 | m+1,c,f+1,hc,hf=>by
   have hc':c<t18.length:=by omega
   have hq:=ht _ (List.getElem_mem hc');have hlen:((t18.take c).map (tr a)++t18.drop c).length=t18.length:=by simp;omega
   have hget:AA ((t18.take c).map (tr a)++t18.drop c) (c:Int)=t18[c]:=by
    rw[Lc _ c (by omega),List.getElem_append_right (by simp;omega)];simp[show c-min c t18.length=0 by omega]
   have hset:∀ v,AU ((t18.take c).map (tr a)++t18.drop c) (c:Int) v=(t18.take c).map (tr a)++(v::t18.drop (c+1)):=fun v=>by
    unfold AU;rw[Int.toNat_natCast,List.set_append_right _ _ (by simp;omega),show c - ((t18.take c).map (tr a)).length=0 by simp;omega,List.drop_eq_getElem_cons hc',List.set_cons_zero]
   have ih:=Py (d:=d) rec12 a acc x11 t18 ht hz m (c+1) f (by omega) (by omega);have hnext:(t18.take (c+1)).map (tr a)++t18.drop (c+1)=(t18.take c).map (tr a)++(tr a t18[c]::t18.drop (c+1)):=by
    rw[←List.take_append_getElem hc',List.map_append,List.append_assoc];rfl
   rw[hnext]at ih;have g:0≤(c:Int)∧(c:Int)<(((t18.take c).map (tr a)++t18.drop c).length:Int):=⟨by omega,by omega⟩;rw[EL.eq_2,if_pos (by omega),if_pos g,hget,if_pos g];unfold tr at ih;by_cases b:0≤t18[c]
   ·rw[if_pos b,if_pos hq,if_pos ⟨b,hq⟩,Option.bind_some]
    cases e:AA a t18[c]with
    | false=>
      rw[if_pos ⟨b,e⟩]at ih;rw[if_pos (by decide),hset,G9,CQ (by omega) (by omega)];exact_mod_cast ih
    | true=>
      rw[if_neg (by rw[e];simp), ←List.drop_eq_getElem_cons hc']at ih;rw[if_neg (by decide),G9,CQ (by omega) (by omega)];exact_mod_cast ih
   ·rw[if_neg (fun k=>b k.1), ←List.drop_eq_getElem_cons hc']at ih;rw[if_neg b,Option.bind_some,if_neg (by decide),G9,CQ (by omega) (by omega)];exact_mod_cast ih
theorem Qs {d:AI} (h:Dr d) (a:List Bool) (ha:a.length=d.f1.length):∀ (m i fuel:Nat),i+m=d.f1.length→m<fuel→
 Ei 20000 d a d.f2 fuel ((d.f1.take i).map fun r=>r.map (tr a)) (i:Int)=some (GG d a)
 | 0,i,f+1,hi,_=>by
   rw[Ei.eq_2,if_neg (by omega),Lv,List.take_of_length_le (by omega)];rfl
 | m+1,i,f+1,hi,hf=>by
   have hn:=h.n2;have hi':i<d.f1.length:=by omega
   have hr:d.f1[i]∈d.f1:=List.getElem_mem hi';have h256:=h.row256 _ hr;have ih:=Qs h a ha m (i+1) f (by omega) (by omega);rw[Ei.eq_2,if_pos (by omega),if_pos ⟨by omega,by omega⟩,Ae _ i hi'];unfold VQ;rw[if_pos (by simp;omega),Option.bind_some,List.nil_append];have e:=Py (d:=d) (Ei 20000 d a d.f2 f) a ((d.f1.take i).map fun r=>r.map (tr a)) (i:Int) d.f1[i] (fun q hq=>by rw[ha];exact(h.ent _ hr q hq).2) (by omega) d.f1[i].length 0 20000 (by omega) (by omega);rw[Int.natCast_zero,List.take_zero,List.drop_zero,List.map_nil,List.nil_append]at e;rw[e,Jy,if_pos (by simp;omega),Mf,CQ (by omega) (by omega)];have:(d.f1.take (i+1)).map (fun r=>r.map (tr a))=(d.f1.take i).map (fun r=>r.map (tr a))++[d.f1[i].map (tr a)]:=by
    rw[←List.take_append_getElem hi',List.map_append];rfl
   rw[this]at ih;exact_mod_cast ih
theorem V0 {d:AI} (h:Dr d):∃ A,AS d A∧aK 20000 d=some (GG d A):=by
 obtain⟨A,a1,a2⟩:=TC h;have hn:=h.n2;have hm:=h.ml;refine⟨A,a2,?_⟩;unfold aK;rw[a1,Option.bind_some];unfold VY;rw[if_pos (by simp;omega),Option.bind_some,List.nil_append];have:=Qs h A a2.1 d.f1.length 0 20000 (by omega) (by omega);rw[Int.natCast_zero,List.take_zero]at this;exact this
def KX:List Int→Int→Int→Int
 | [],_,_=> -1
 | y::l,x,i=>if y=x then i else KX l x (i+1)
def pl (l:List Int) (x:Int):Int:=KX l x 0
theorem Qx {x:Int}:∀ (l:List Int) (i:Int),x∉l→KX l x i= -1
 | [],_,_=>rfl
 | y::l,i,h=>by
   rw[KX,if_neg (fun e=>h (by simp[e])),Qx l (i+1) (fun e=>h (by simp[e]))]
theorem Qn {x:Int} (m:List Int):∀ (l:List Int) (i:Int),x∈l→KX (l++m) x i=KX l x i
 | y::l,i,h=>by
   rw[List.cons_append,KX,KX];by_cases e:y=x
   ·rw[if_pos e,if_pos e]
   ·rw[if_neg e,if_neg e,Qn m l (i+1) ((List.mem_cons.1 h).resolve_left fun k=>e k.symm)]
theorem N0 {x:Int}:∀ (l:List Int) (i:Int),x∉l→KX (l++[x]) x i=i+l.length
 | [],i,_=>by simp[KX]
 | y::l,i,h=>by
   rw[List.cons_append,KX,if_neg (fun e=>h (by simp[e])),N0 l (i+1) (fun e=>h (by simp[e])),List.length_cons];omega
theorem Kg {x y:Int} (e:y≠x):∀ (l:List Int) (i:Int),KX (l++[y]) x i=KX l x i
 | [],i=>by simp[KX,e]
 | z::l,i=>by rw[List.cons_append,KX,KX,Kg e l (i+1)]
theorem Pz {x:Int}:∀ (l:List Int) (i:Int),x∈l→∃ j:Nat,j<l.length∧KX l x i=i+j∧AA l (j:Int)=x
 | y::l,i,h=>by
   by_cases e:y=x
   ·exact⟨0,by simp,by rw[KX,if_pos e];omega,e⟩
   ·obtain⟨j,j1,j2,j3⟩:=Pz l (i+1) ((List.mem_cons.1 h).resolve_left fun k=>e k.symm);refine⟨j+1,by simp;omega,by rw[KX,if_neg e,j2];omega,?_⟩;rw[Ae _ _ (by simp;omega)];rw[Ae _ _ j1]at j3;simpa using j3
theorem D1 {l:List Int} {x:Int} (h:x∉l):pl l x= -1:=Qx l 0 h
theorem Dx {l:List Int} {x:Int} (h:x∈l):∃ j:Nat,j<l.length∧pl l x=j∧AA l (j:Int)=x:=by
 obtain⟨j,j1,j2,j3⟩:=Pz l 0 h;exact⟨j,j1,by unfold pl;omega,j3⟩
theorem UR {l:List Int} {x:Int} (m:List Int) (h:x∈l):pl (l++m) x=pl l x:=Qn m l 0 h
def Et (L:List Int) (x:Int):List Int:=if 0≤x∧x∉L then L++[x]else L
def Ft (L:List Int) (r:List Int):List Int:=r.foldl Et L
theorem UW (L:List Int) (x:Int):∃ m,Et L x=L++m:=by
 unfold Et;split
 ·exact⟨[x],rfl⟩
 ·exact⟨[],by simp⟩
theorem F2:∀ (r L:List Int),∃ m,Ft L r=L++m
 | [],L=>⟨[],by simp[Ft]⟩
 | x::r,L=>by
   obtain⟨m,hm⟩:=UW L x;obtain⟨k,hk⟩:=F2 r (Et L x);refine⟨m++k,?_⟩;show Ft (Et L x) r=_;rw[hk,hm,List.append_assoc]
theorem Tp {L:List Int} {x:Int} (h:0≤x):x∈Et L x:=by
 unfold Et;split
 ·simp
 ·rename_i c;by_cases q:x∈L
  ·exact q
  ·exact absurd ⟨h,q⟩ c
theorem OO:∀ (r L:List Int) {x:Int},x∈r→0≤x→x∈Ft L r
 | y::r,L,x,h,h0=>by
   show x∈Ft (Et L y) r;rcases List.mem_cons.1 h with rfl|h
   ·obtain⟨m,hm⟩:=F2 r (Et L x);rw[hm];exact List.mem_append_left _ (Tp h0)
   ·exact OO r _ h h0
theorem GN:∀ (r L:List Int) {x:Int},x∈Ft L r→x∈L∨(x∈r∧0≤x)
 | [],L,x,h=>.inl h
 | y::r,L,x,h=>by
   have h':x∈Ft (Et L y) r:=h;rcases GN r _ h' with k|k
   ·unfold Et at k;split at k
    ·rename_i c;rcases List.mem_append.1 k with k|k
     ·exact .inl k
     ·have:x=y:=by simpa using k
      subst this;exact .inr ⟨by simp,c.1⟩
    ·exact .inl k
   ·exact .inr ⟨by simp[k.1],k.2⟩
theorem O7 {L:List Int} {x:Int} (h:L.Nodup):(Et L x).Nodup:=by
 unfold Et;split
 ·rename_i c;rw[List.nodup_append];refine⟨h,by simp,fun a ha b hb=>?_⟩;have:b=x:=by simpa using hb
  subst this;intro e;subst e;exact c.2 ha
 ·exact h
theorem Ji:∀ (r L:List Int),L.Nodup→(Ft L r).Nodup
 | [],_,h=>h
 | x::r,L,h=>Ji r _ (O7 h)
theorem LS:∀ (n:Nat) (L:List Int),L.Nodup→(∀ x∈L,0≤x∧x<(n:Int))→L.length≤n
 | 0,L,_,h=>by
   cases L with
   | nil=>simp
   | cons x L=>have:=h x (by simp);omega
 | n+1,L,hn,h=>by
   have ih:=LS n (L.erase (n:Int)) (hn.erase _) (fun x hx=>by
    rw[hn.mem_erase_iff]at hx;have:=h x hx.2
    omega)
   by_cases q:(n:Int)∈L
   ·rw[List.length_erase_of_mem q]at ih;omega
   ·rw[List.erase_of_not_mem q]at ih;omega
def Xj (d:AI):Nat→List Int→Nat→List Int
 | 0,L,_=>L
 | m+1,L,i=>if i<L.length then Xj d m (Ft L (Bl d (AA L (i:Int)))) (i+1)else L
def OL (d:AI):List Int:=Xj d 20000 [0] 0
def OD (d:AI) (L:List Int):AI:=AI.mk d.f0 (L.map fun q=>(Bl d q).map (pl L)) (L.map fun q=>AA d.f2 q)
def Hu (d:AI):AI:=OD d (OL d)
structure OI (d:AI) (L:List Int) (i:Nat):Prop where
 nd:L.Nodup
 rng:∀ x∈L,0≤x∧x<(d.f1.length:Int)
 rch:∀ x∈L,DR d 0 x
 cls:∀ j:Nat,j<i→∀ x∈Bl d (AA L (j:Int)),0≤x→x∈L
 le:i≤L.length
 hd:∃ m,L=0::m
theorem OI.len {d:AI} {L:List Int} {i:Nat} (h:OI d L i):L.length≤d.f1.length:=LS _ L h.nd h.rng
theorem OI.start {d:AI} (h:Dr d):OI d [0] 0:=
 ⟨by simp,fun x hx=>by
   have:=h.n1;have e:x=0:=by simpa using hx
   subst e;omega,fun x hx=>by
    have e:x=0:=by simpa using hx
    subst e;exact .refl,fun j hj=>by omega,by simp,⟨[],rfl⟩⟩
theorem J6 {L m:List Int} {j:Nat} (h:j<L.length):AA (L++m) (j:Int)=AA L (j:Int):=by
 rw[Ae _ j (by simp;omega),Ae L j h,List.getElem_append_left]
theorem OI.next {d:AI} (hd:Dr d) {L:List Int} {i:Nat} (h:OI d L i) (hi:i<L.length):OI d (Ft L (Bl d (AA L (i:Int)))) (i+1):=by
 obtain⟨m,hm⟩:=F2 (Bl d (AA L (i:Int))) L;have hmem:AA L (i:Int)∈L:=Al (by omega) (by omega);have hq:=h.rng _ hmem;refine⟨Ji _ _ h.nd,fun x hx=>?_,fun x hx=>?_,fun j hj x hx h0=>?_,by rw[hm];simp;omega,?_⟩
 ·rcases GN _ _ hx with k|k
  ·exact h.rng x k
  ·exact⟨k.2,XV hd hq.1 hq.2 x k.1⟩
 ·rcases GN _ _ hx with k|k
  ·exact h.rch x k
  ·obtain⟨c,hc,rfl⟩:=Cc k.1;exact .step (h.rch _ hmem) (by omega) k.2
 ·have hjL:j<L.length:=by have:=h.le;omega
  by_cases e:j=i
  ·subst e;rw[hm,J6 hjL]at hx;exact OO _ _ hx h0
  ·rw[hm,J6 hjL]at hx;rw[hm];exact List.mem_append_left _ (h.cls j (by omega) x hx h0)
 ·obtain⟨k,hk⟩:=h.hd;refine⟨k++m,?_⟩;rw[hm,hk,List.cons_append]
theorem Sj {d:AI} (hd:Dr d):∀ (m:Nat) (L:List Int) (i:Nat),OI d L i→d.f1.length<i+m→OI d (Xj d m L i) (Xj d m L i).length
 | 0,L,i,h,hm=>by
   have:=h.len;have:=h.le;omega
 | m+1,L,i,h,hm=>by
   rw[Xj];by_cases a:i<L.length
   ·rw[if_pos a];exact Sj hd m _ (i+1) (h.next hd a) (by omega)
   ·rw[if_neg a];have:=h.le;have e:i=L.length:=by omega
    rw[←e];exact h
theorem Gm {d:AI} (hd:Dr d):OI d (OL d) (OL d).length:=Sj hd 20000 [0] 0 (OI.start hd) (by have:=hd.n2;omega)
theorem YP {L m:List Int} {r:List Int} (h:∀ x∈r, -1≤x) (hc:∀ x∈r,0≤x→x∈L) (hL:∀ x∈L++m,0≤x):r.map (pl (L++m))=r.map (pl L):=by
 apply List.map_congr_left;intro x hx;by_cases a:0≤x
 ·exact UR m (hc x hx a)
 ·rw[D1 (fun k=>a (hL x k)),D1 (fun k=>a (hL x (by simp[k])))]
theorem XW {d:AI} (h:Dr d) {p:Int} (h0:0≤p) (h1:p<(d.f1.length:Int)):∀ q∈Bl d p, -1≤q:=fun q hq=>(h.ent _ (Al h0 h1) q hq).1
theorem HP {d:AI} (h:Dr d) (rec23:List Int→List (List Int)→List Int→List Int→Int→Option AI) (x17:List (List Int)) (x19:List Int) (L0:List Int) (i:Nat) (q:Int) (hq:AA L0 (i:Int)=q) (hq0:0≤q∧q<(d.f1.length:Int)):
 ∀ (m c fuel:Nat) (nb L acc:List Int),c+m=(Bl d q).length→m<fuel→nb.length=d.f1.length→(∀ x:Int,0≤x→x<(d.f1.length:Int)→AA nb x=pl L x)→(∀ x∈L,0≤x)→L.length+m≤100000→acc.length=c→
 ∃ nb',Ee 20000 rec23 d x17 x19 L0 (i:Int) fuel nb L acc (c:Int)=Jq 20000 rec23 d x17 x19 (i:Int) nb' (Ft L ((Bl d q).drop c)) (acc++((Bl d q).drop c).map (pl (Ft L ((Bl d q).drop c))))∧
  nb'.length=d.f1.length∧(∀ x:Int,0≤x→x<(d.f1.length:Int)→AA nb' x=pl (Ft L ((Bl d q).drop c)) x)
 | 0,c,f+1,nb,L,acc,hc,_,hn,hp,hL,hz,ha=>by
   have hcn:¬ (c:Int)<((AA d.f1 q).length:Int):=by
    have:¬ (c:Int)<((Bl d q).length:Int):=by omega
    exact this
   rw[Ee.eq_2,hq,if_neg hcn,List.drop_of_length_le (by omega)];exact⟨nb,by simp[Ft],hn,hp⟩
 | m+1,c,f+1,nb,L,acc,hc,hf,hn,hp,hL,hz,ha=>by
   have hc':c<(Bl d q).length:=by omega
   have hcI:(c:Int)<((AA d.f1 q).length:Int):=by
    have:(c:Int)<((Bl d q).length:Int):=by omega
    exact this
   have he:=h.entk hq0.1 hq0.2 (c:=(c:Int)) (by omega) hcI;have h256:(Bl d q).length≤256:=h.row256 _ (Al hq0.1 hq0.2);have hn2:=h.n2;have ge:AA (AA d.f1 q) (c:Int)=(Bl d q)[c]:=Ae (Bl d q) c hc';have hmx:(Bl d q)[c]∈Bl d q:=List.getElem_mem hc';rw[Ee.eq_2,hq,if_pos hcI,if_pos ⟨by omega,hcI⟩];unfold I2 J8;rw[hq,ge,List.drop_eq_getElem_cons hc',List.map_cons];rw[ge]at he;have hd2:Ft L ((Bl d q)[c]::(Bl d q).drop (c+1))=Ft (Et L (Bl d q)[c]) ((Bl d q).drop (c+1)):=rfl;rw[hd2];generalize hto:(Bl d q)[c]=to at he;have hlen:∀ v:Int,(acc++[v]).length*8≤140737488355328:=fun v=>by simp;omega
   have stab:∀ L1:List Int,(∀ x∈L1,0≤x)→(0≤to→to∈L1)→pl (Ft L1 ((Bl d q).drop (c+1))) to=pl L1 to:=by
    intro L1 h1 h2;obtain⟨k,hk⟩:=F2 ((Bl d q).drop (c+1)) L1;by_cases a:0≤to
    ·rw[hk];exact UR k (h2 a)
    ·rw[D1 (fun z=>a (h1 _ z)),D1 (fun z=>?_)];rcases GN _ _ z with z|z
     ·exact a (h1 _ z)
     ·exact a z.2
   by_cases a:0≤to
   ·have g:0≤to∧to<(nb.length:Int):=⟨a,by omega⟩;rw[if_pos a,if_pos g,hp to a (by omega),Option.bind_some];by_cases b:to∈L
    ·obtain⟨j,j1,j2,j3⟩:=Dx b;have hadd:Et L to=L:=by unfold Et;rw[if_neg (fun k=>k.2 b)]
     rw[if_neg (by rw[j2];simp),if_pos a,if_pos g,if_pos (hlen _),CQ (by omega) (by omega),hadd,stab L hL (fun _=>b)];obtain⟨nb',n1,n2,n3⟩:=HP h rec23 x17 x19 L0 i q hq hq0 m (c+1) f nb L (acc++[pl L to]) (by omega) (by omega) hn hp hL (by omega) (by simp[ha]);refine⟨nb',?_,n2,n3⟩;rw[List.append_assoc]at n1;exact_mod_cast n1
    ·have hadd:Et L to=L++[to]:=by unfold Et;rw[if_pos ⟨a,b⟩]
     have hpl:pl (L++[to]) to=(L.length:Int):=by unfold pl;rw[N0 L 0 b];omega
     have hL1:∀ x∈L++[to],0≤x:=fun x hx=>by
      rcases List.mem_append.1 hx with k|k
      ·exact hL x k
      ·have e:x=to:=by simpa using k
       subst e;exact a
     have g':0≤to∧to<((AU nb to (L.length:Int)).length:Int):=⟨a,by rw[Au];omega⟩;have hgetI:∀ (l:List Int) (i q v:Int),0≤i→i<(l.length:Int)→0≤q→AA (AU l i v) q=if q=i then v else AA l q:=by
      intro l i q v h0 h1 hq;unfold AA AU;rw[List.getD,List.getD,List.getElem?_set];by_cases e:i.toNat=q.toNat
      ·rw[if_pos e,if_pos (by omega),if_pos (by omega)];rfl
      ·rw[if_neg e,if_neg (by omega)]
     rw[D1 b,if_pos (by decide),if_pos g,if_pos (by simp;omega),if_pos a,if_pos g',hgetI nb to to _ a (by omega) a,if_pos rfl,if_pos (hlen _),CQ (by omega) (by omega),hadd,stab _ hL1 (fun _=>by simp),hpl]
     obtain⟨nb',n1,n2,n3⟩:=HP h rec23 x17 x19 L0 i q hq hq0 m (c+1) f (AU nb to (L.length:Int)) (L++[to]) (acc++[(L.length:Int)]) (by omega) (by omega) (by rw[Au];exact hn) (fun x h0 h1=>by
      rw[hgetI nb to x _ a (by omega) h0];by_cases e:x=to
      ·rw[if_pos e,e,hpl]
      ·rw[if_neg e,hp x h0 h1];unfold pl;rw[Kg (fun k=>e k.symm)]) hL1 (by simp;omega) (by simp[ha])
     refine⟨nb',?_,n2,n3⟩;rw[List.append_assoc]at n1;exact_mod_cast n1
   ·have e1:to= -1:=by omega
    have hadd:Et L to=L:=by unfold Et;rw[if_neg (fun k=>a k.1)]
    rw[if_neg a,Option.bind_some,if_neg (by decide),if_neg a,if_pos (hlen _),CQ (by omega) (by omega),hadd,stab L hL (fun k=>absurd k a),D1 (fun z=>a (hL _ z))];obtain⟨nb',n1,n2,n3⟩:=HP h rec23 x17 x19 L0 i q hq hq0 m (c+1) f nb L (acc++[(-1:Int)]) (by omega) (by omega) hn hp hL (by omega) (by simp[ha]);refine⟨nb',?_,n2,n3⟩;rw[List.append_assoc]at n1;rw[e1];exact_mod_cast n1
theorem WB {d:AI} (hd:Dr d) {L:List Int} {i:Nat} (h:OI d L i) (hi:i<L.length) (m:List Int) (hm:Ft L (Bl d (AA L (i:Int)))=L++m):
 ((L++m).take (i+1)).map (fun q=>(Bl d q).map (pl (L++m)))=(L.take i).map (fun q=>(Bl d q).map (pl L))++[(Bl d (AA L (i:Int))).map (pl (L++m))]:=by
 rw[List.take_append_of_le_length (by omega), ←List.take_append_getElem hi,List.map_append,List.map_singleton,Ae L i hi];congr 1;apply List.map_congr_left;intro q hq;obtain⟨j,hj,rfl⟩:=List.getElem_of_mem hq;have hj':j<i:=by simp at hj;omega
 have hjL:j<L.length:=by omega
 have e:(L.take i)[j]=AA L (j:Int):=by rw[List.getElem_take,Ae L j hjL]
 have hrg:=h.rng _ (Al (l:=L) (i:=(j:Int)) (by omega) (by omega));rw[e];refine YP (XW hd hrg.1 hrg.2) (fun x hx h0=>h.cls j hj' x hx h0) fun x hx=>?_;have:=(h.next hd hi).rng x (by rw[hm];exact hx);exact this.1
theorem Nc {d:AI} (hd:Dr d):∀ (m:Nat) (nb L:List Int) (i:Nat),OI d L i→d.f1.length<i+m→nb.length=d.f1.length→(∀ x:Int,0≤x→x<(d.f1.length:Int)→AA nb x=pl L x)→
 Fe 20000 d m nb ((L.take i).map fun q=>(Bl d q).map (pl L)) ((L.take i).map fun q=>AA d.f2 q) L (i:Int)=some (OD d (Xj d m L i))
 | 0,nb,L,i,h,hm,_,_=>by
   have:=h.len;have:=h.le;omega
 | m+1,nb,L,i,h,hm,hn,hp=>by
   have hlen:=h.len;have hle:=h.le;have hn2:=hd.n2;rw[Fe.eq_2,Xj];by_cases a:i<L.length
   ·have hmem:AA L (i:Int)∈L:=Al (by omega) (by omega);have hq:=h.rng _ hmem;have hm2:=hd.ml;have h256:(Bl d (AA L (i:Int))).length≤256:=hd.row256 _ (Al hq.1 hq.2);have h256':(AA d.f1 (AA L (i:Int))).length≤256:=h256;have hnx:=h.next hd a;have hnl:=hnx.len;obtain⟨k,hk⟩:=F2 (Bl d (AA L (i:Int))) L;obtain⟨nb',n1,n2,n3⟩:=HP hd (Fe 20000 d m) ((L.take i).map fun q=>(Bl d q).map (pl L)) ((L.take i).map fun q=>AA d.f2 q) L i (AA L (i:Int)) rfl hq (Bl d (AA L (i:Int))).length 0 20000 nb L [] (by omega) (by omega) hn hp (fun x hx=>(h.rng x hx).1) (by omega) rfl;rw[Int.natCast_zero,List.drop_zero,List.nil_append]at n1;rw[List.drop_zero]at n3;rw[if_pos a,if_pos (by omega),if_pos ⟨by omega,by omega⟩,if_pos hq,if_pos ⟨by omega,by omega,by omega⟩,if_pos ⟨by omega,by omega⟩,if_pos hq,n1];unfold Jq Me;rw[hk]at hnx hnl n3⊢
    have hgl:AA (L++k) (i:Int)=AA L (i:Int):=J6 a;rw[if_pos (by simp;omega),if_pos ⟨by omega,by simp;omega⟩,hgl,if_pos ⟨hq.1,by omega⟩,if_pos (by simp;omega),CQ (by omega) (by omega)];have ih:=Nc hd m nb' (L++k) (i+1) hnx (by omega) n2 n3;rw[WB hd h a k hk]at ih;have e2:((L++k).take (i+1)).map (fun q=>AA d.f2 q)=(L.take i).map (fun q=>AA d.f2 q)++[AA d.f2 (AA L (i:Int))]:=by
     rw[List.take_append_of_le_length (by omega), ←List.take_append_getElem a,List.map_append,List.map_singleton,Ae L i a]
    rw[e2]at ih;exact_mod_cast ih
   ·rw[if_neg a,if_neg (by omega),M1];have e:i=L.length:=by omega
    rw[e,List.take_length];rfl
theorem Tv (N:Nat) (x:Int) (h0:0≤x) (h1:x<(N:Int)):AA (List.replicate N (-1:Int)) x= -1:=by
 unfold AA;rw[List.getD,List.getElem?_replicate,if_pos (by omega)];rfl
theorem Nl {d:AI} (hd:Dr d):∀ (m i fuel:Nat),i+m=d.f1.length→m<fuel→
 Fg 20000 d fuel (List.replicate i (-1:Int)++List.replicate m (0:Int)) (i:Int)=I1 20000 d (List.replicate d.f1.length (-1:Int))
 | 0,i,f+1,hi,_=>by
   rw[Fg.eq_2,if_neg (by simp;omega),show i=d.f1.length by omega];simp
 | m+1,i,f+1,hi,hf=>by
   have hn2:=hd.n2;have ih:=Nl hd m (i+1) f (by omega) (by omega);rw[Fg.eq_2,if_pos (by simp;omega),if_pos ⟨by omega,by simp;omega⟩,CQ (by omega) (by omega)];have e:AU (List.replicate i (-1:Int)++List.replicate (m+1) (0:Int)) (i:Int) (-1)=List.replicate (i+1) (-1:Int)++List.replicate m (0:Int):=by
    unfold AU;rw[Int.toNat_natCast,List.set_append_right _ _ (by simp),show i - (List.replicate i (-1:Int)).length=0 by simp,List.replicate_succ,List.set_cons_zero,List.replicate_succ',List.append_assoc];rfl
   rw[e];exact_mod_cast ih
theorem Np {d:AI} (hd:Dr d):XK 20000 d=some (Hu d):=by
 have h1:=hd.n1;have h2:=hd.n2;unfold XK;rw[if_pos ⟨by omega,by omega,by omega⟩,Int.toNat_natCast];have e:=Nl hd d.f1.length 0 20000 (by omega) (by omega);rw[Int.natCast_zero,List.replicate_zero,List.nil_append]at e;rw[e,I1,if_neg (by omega),if_pos ⟨by omega,by simp;omega⟩]
 have:=Nc hd 20000 (AU (List.replicate d.f1.length (-1:Int)) 0 0) [0] 0 (OI.start hd) (by omega) (by rw[Au,List.length_replicate]) (fun x h0 hx=>by
  unfold AU;by_cases q:x=0
  ·subst q;unfold AA pl KX;rw[List.getD,List.getElem?_set_self (by simp;omega)];rfl
  ·have hne:(0:Int).toNat≠x.toNat:=by omega
   have e2:pl [0] x= -1:=D1 (by simpa using q);refine Eq.trans ?_ ((Tv d.f1.length x h0 hx).trans e2.symm);unfold AA
   rw[List.getD,List.getD,List.getElem?_set_ne hne])
 exact this
end Go.Avl.T8
