/- Parts: T7E5, T7E6, T7D0, T7EB, T7ED, T7D1, T7EF, T7EE, T7K1, T7D2, T7D3, T7D4. -/
import Derived.Test.YtpkgpmmcbpfenaaAM2
import Derived.Test.YtpkgpmmcbpfenaaAF6
import Derived.Test.YtpkgpmmcbpfenaaAF1
import Derived.Test.YtpkgpmmcbpfenaaAF7
import Derived.Test.YtpkgpmmcbpfenaaAF2
import Derived.Test.YtpkgpmmcbpfenaaAM1
import Derived.Test.YtpkgpmmcbpfenaaAF8
import Derived.Test.YtpkgpmmcbpfenaaAF4
import Derived.Test.YtpkgpmmcbpfenaaAF5
namespace Go.Avl.T7
open Go Go.RowKit Go.Proofs Go.Avl
set_option linter.all false
set_option maxRecDepth 10000
def RE (s:ByteArray) (a d:Nat) (o:Option (List S131×Bool×S140)) (w:Option (List S131×Int)):Prop:=
 ∃ (l:List S131) (ok:Bool) (a':Nat),o=some (l,ok,S140.mk s (a':Int) (d:Int))∧a≤a'∧a'≤s.size∧l.length≤2*(a'-a)+1∧
  (ok=true→a<a'∧l.length+1≤2*(a'-a)∧w=some (l,(a':Int))∧∃ t,ROK t∧l=ser t)∧(ok=false→∃ z,w=some ([],z))
theorem RE.no {s:ByteArray} {a a' d:Nat} {z:Int} {l:List S131} (h:a≤a') (h2:a'≤s.size) (hl:l.length≤2*(a'-a)+1):RE s a d (some (l,false,S140.mk s (a':Int) (d:Int))) (some ([],z)):=
 ⟨l,false,a',rfl,h,h2,hl,(fun q=>by cases q),fun _=>⟨z,rfl⟩⟩
theorem ser_ne {t:Rx}:ser t≠[]:=fun e=>by have:=ser_pos t;rw[e]at this;simp at this
theorem cat_e {s:ByteArray} (hz:s.size≤90) {self:S140→Option (List S131×Bool×S140)} {self':ByteArray→Int→Int→Option (List S131×Int)} {a0 d:Nat} (hs:∀ a,a0≤a→a≤s.size→RE s a d (self (S140.mk s (a:Int) (d:Int))) (self' s (a:Int) (d:Int))):
 ∀ (m a f1 f2:Nat) (t:Rx),s.size-a+1≤m→m+1≤f1→m≤f2→a0<a→a≤s.size→ROK t→(ser t).length+1≤2*(a-a0)→
 RE s a0 d (F92b_l1 5000 self f1 s (a:Int) (d:Int) (ser t) true) (F64b_l1 5000 self' s (d:Int) f2 (a:Int) (ser t))
 | 0,_,_,_,_,h,_,_,_,_,_,_=>by omega
 | m+1,a,f1,f2,t,hm,hf1,hf2,h0,ha,ht,hl=>by
   obtain⟨f1,rfl⟩:∃ q,f1=q+1:=⟨f1-1,by omega⟩
   obtain⟨f2,rfl⟩:∃ q,f2=q+1:=⟨f2-1,by omega⟩
   rw[F92b_l1.eq_2,F64b_l1.eq_2,if_pos rfl,end_eq s a _ _ (by decide),Option.bind_some,Option.bind_some,if_pos ser_ne]
   have fin:RE s a0 d (F92b_c0 5000 (ser t) true s (a:Int) (d:Int)) (F64b_c0 5000 (a:Int) (ser t)):=
    ⟨ser t,true,a,rfl,by omega,ha,by omega,fun _=>⟨h0,hl,rfl,t,ht,rfl⟩,fun q=>by cases q⟩
   by_cases q:a<s.size
   ·rw[if_pos (show (a:Int)<(s.size:Int)by omega),if_pos (show 0≤(a:Int)∧(a:Int)<(s.size:Int)from⟨by omega,by omega⟩),in_eq _ (by decide),Option.bind_some,Option.bind_some,decide_eq_false (show ¬ s.size≤a by omega),Bool.false_or]
    cases hb:inB (ByteArray.mk #[124,41]) (byteAt s (a:Int))with
    | true=>rw[if_neg (by simp),if_neg (by simp)];exact fin
    | false=>
      rw[if_pos (show (!false)=true from rfl),if_pos (show (!false)=true from rfl)]
      obtain⟨l2,ok2,a2,e,c1,c2,c3,c4,c5⟩:=hs a (by omega) ha
      rw[e,Option.bind_some,join2 (.inl rfl) (by omega) (show l2.length≤100000 by omega),Option.bind_some]
      cases ok2 with
      | false=>
        obtain⟨z,hw⟩:=c5 rfl
        rw[hw,Option.bind_some,if_pos rfl]
        obtain⟨f1,rfl⟩:∃ q,f1=q+1:=⟨f1-1,by omega⟩
        show RE s a0 d (F92b_l1 5000 self (f1+1) s (a2:Int) (d:Int) (ser t++l2++[pcs 2]) false) _
        rw[F92b_l1.eq_2,if_neg (by simp),Option.bind_some,if_neg (by simp)]
        exact RE.no (by omega) c2 (by simp;omega)
      | true=>
        obtain⟨k1,k2,hw,t2,ht2,rfl⟩:=c4 rfl
        have z1:(([]:List S131)++ser t).length*40≤140737488355328:=by simp;omega
        have z2:((([]:List S131)++ser t)++ser t2).length*40≤140737488355328:=by simp;omega
        have z3:(((([]:List S131)++ser t)++ser t2)++([S131.mk 2 (Vector.replicate 4 0)]:List S131)).length*40≤140737488355328:=by simp;omega
        rw[hw,Option.bind_some,if_neg ser_ne,if_pos z1,if_pos z2,if_pos z3,List.nil_append]
        exact cat_e hz hs m a2 f1 f2 (.cat t t2) (by omega) (by omega) (by omega) (by omega) c2 ⟨ht,ht2⟩ (by simp[ser];omega)
   ·rw[if_neg (show ¬ (a:Int)<(s.size:Int)by omega),Option.bind_some,if_neg (by simp;intro h;omega),if_neg (by simp)]
    exact fin
theorem alt_e {s:ByteArray} (hz:s.size≤90) {self:S140→Option (List S131×Bool×S140)} {self':ByteArray→Int→Int→Option (List S131×Int)} {a0 d:Nat} (hs:∀ a,a0≤a→a≤s.size→RE s a d (self (S140.mk s (a:Int) (d:Int))) (self' s (a:Int) (d:Int))):
 ∀ (m a f1 f2:Nat) (t:Rx),s.size-a+1≤m→m+1≤f1→m≤f2→a0<a→a≤s.size→ROK t→(ser t).length+1≤2*(a-a0)→
 RE s a0 d (F92a_l1 5000 self f1 s (a:Int) (d:Int) (ser t) true) (F64a_l1 5000 self' s (d:Int) f2 (a:Int) (ser t))
 | 0,_,_,_,_,h,_,_,_,_,_,_=>by omega
 | m+1,a,f1,f2,t,hm,hf1,hf2,h0,ha,ht,hl=>by
   obtain⟨f1,rfl⟩:∃ q,f1=q+1:=⟨f1-1,by omega⟩
   obtain⟨f2,rfl⟩:∃ q,f2=q+1:=⟨f2-1,by omega⟩
   rw[F92a_l1.eq_2,F64a_l1.eq_2,if_pos rfl,if_pos ser_ne]
   have fin:RE s a0 d (F92a_c0 5000 (ser t) true s (a:Int) (d:Int)) (F64a_c0 5000 (a:Int) (ser t)):=
    ⟨ser t,true,a,rfl,by omega,ha,by omega,fun _=>⟨h0,hl,rfl,t,ht,rfl⟩,fun q=>by cases q⟩
   by_cases q:a<s.size∧byteAt s (a:Int)=124
   ·have qa:=q.1
    rw[eat_y (by omega) q,Option.bind_some,Option.bind_some,if_pos (show (a:Int)<(s.size:Int)by omega),if_pos (show 0≤(a:Int)∧(a:Int)<(s.size:Int)from⟨by omega,by omega⟩),Option.bind_some,decide_eq_true q.2]
    show RE s a0 d (if true=true then(self (S140.mk s ((a+1:Nat):Int) (d:Int))).bind _ else _) (if true=true then(self' s (w64 ((a:Int)+1)) (d:Int)).bind _ else _)
    have e1:w64 ((a:Int)+1)=((a+1:Nat):Int):=by rw[w6t (by omega) (by omega)];rfl
    rw[if_pos rfl,if_pos rfl,e1]
    obtain⟨l2,ok2,a2,e,c1,c2,c3,c4,c5⟩:=hs (a+1) (by omega) (by omega)
    rw[e,Option.bind_some,join2 (.inr rfl) (by omega) (show l2.length≤100000 by omega),Option.bind_some]
    cases ok2 with
    | false=>
      obtain⟨z,hw⟩:=c5 rfl
      rw[hw,Option.bind_some,if_pos rfl]
      obtain⟨f1,rfl⟩:∃ q,f1=q+1:=⟨f1-1,by omega⟩
      show RE s a0 d (F92a_l1 5000 self (f1+1) s (a2:Int) (d:Int) (ser t++l2++[pcs 3]) false) _
      rw[F92a_l1.eq_2,if_neg (by simp),Option.bind_some]
      exact RE.no (by omega) c2 (by simp;omega)
    | true=>
      obtain⟨k1,k2,hw,t2,ht2,rfl⟩:=c4 rfl
      have z1:(([]:List S131)++ser t).length*40≤140737488355328:=by simp;omega
      have z2:((([]:List S131)++ser t)++ser t2).length*40≤140737488355328:=by simp;omega
      have z3:(((([]:List S131)++ser t)++ser t2)++([S131.mk 3 (Vector.replicate 4 0)]:List S131)).length*40≤140737488355328:=by simp;omega
      rw[hw,Option.bind_some,if_neg ser_ne,if_pos z1,if_pos z2,if_pos z3,List.nil_append]
      exact alt_e hz hs m a2 f1 f2 (.alt t t2) (by omega) (by omega) (by omega) (by omega) c2 ⟨ht,ht2⟩ (by simp[ser];omega)
   ·rw[eat_n (by omega) q,Option.bind_some,Option.bind_some]
    have e1:(if(a:Int)<(s.size:Int)then if 0≤(a:Int)∧(a:Int)<(s.size:Int)then some (decide (byteAt s (a:Int)=124))else none else some false)=some false:=by
     by_cases k:a<s.size
     ·rw[if_pos (by omega),if_pos ⟨by omega,by omega⟩,decide_eq_false (fun h=>q ⟨k,h⟩)]
     ·rw[if_neg (by omega)]
    rw[e1,Option.bind_some,if_neg (by simp)]
    exact fin
theorem in3 (c:Int):inB (ByteArray.mk #[42,43,63]) c=decide (c=42∨c=43∨c=63):=by
 unfold inB F109
 have e0:byteAt (ByteArray.mk #[42,43,63]) 0=42:=rfl
 have e1:byteAt (ByteArray.mk #[42,43,63]) 1=43:=rfl
 have e2:byteAt (ByteArray.mk #[42,43,63]) 2=63:=rfl
 have w0:w64 ((0:Int)+1)=1:=rfl
 have w1:w64 ((1:Int)+1)=2:=rfl
 have w2:w64 ((2:Int)+1)=3:=rfl
 rw[show (5000:Nat)=4996+1+1+1+1 from rfl,F109_l1.eq_2,if_pos (by decide),if_pos (by decide),e0,w0]
 by_cases a:(42:Int)=c
 ·subst a;rfl
 rw[if_neg a,F109_l1.eq_2,if_pos (by decide),if_pos (by decide),e1,w1]
 by_cases b:(43:Int)=c
 ·subst b;rfl
 rw[if_neg b,F109_l1.eq_2,if_pos (by decide),if_pos (by decide),e2,w2]
 by_cases d:(63:Int)=c
 ·subst d;rfl
 rw[if_neg d,F109_l1.eq_2,if_neg (by decide),decide_eq_false (by omega)];rfl
theorem rep_e {s:ByteArray} (hz:s.size≤90) (t2:List S131×Bool×S140) (ht2:t2.2.1=true) {a0 d:Nat}:∀ (m a f1 f2:Nat) (t:Rx),s.size-a<m→m≤f1→m≤f2→a0<a→a≤s.size→ROK t→(ser t).length+1≤2*(a-a0)→
 RE s a0 d (F92c_l1 5000 t2 f1 s (a:Int) (d:Int) (ser t)) (F64c_l3 5000 s f2 (a:Int) (ser t))
 | 0,_,_,_,_,h,_,_,_,_,_,_=>by omega
 | m+1,a,f1,f2,t,hm,hf1,hf2,h0,ha,ht,hl=>by
   obtain⟨f1,rfl⟩:∃ q,f1=q+1:=⟨f1-1,by omega⟩
   obtain⟨f2,rfl⟩:∃ q,f2=q+1:=⟨f2-1,by omega⟩
   have go:∀ k:Int,k=4∨k=5∨k=6→a<s.size→RE s a0 d ((F117 5000 k [ser t]).bind fun t18=>F92c_l1 5000 t2 f1 s ((a+1:Nat):Int) (d:Int) t18) (F64c_c1 5000 (F64c_l3 5000 s f2) (a:Int) (ser t) k):=by
    intro k hk hlt
    have z1:(([]:List S131)++ser t).length*40≤140737488355328:=by simp;omega
    have z2:((([]:List S131)++ser t)++([S131.mk k (Vector.replicate 4 0)]:List S131)).length*40≤140737488355328:=by simp;omega
    have e1:w64 ((a:Int)+1)=((a+1:Nat):Int):=by rw[w6t (by omega) (by omega)];rfl
    unfold F64c_c1
    rw[join1 hk (by omega),Option.bind_some,if_pos z1,if_pos z2,e1,List.nil_append]
    exact rep_e hz t2 ht2 m (a+1) f1 f2 (.un k t) (by omega) (by omega) (by omega) (by omega) (by omega) ⟨by omega,by omega,ht⟩ (by simp[ser];omega)
   rw[F92c_l1.eq_2,F64c_l3.eq_2,if_pos ht2,if_pos ser_ne]
   by_cases q:a<s.size
   ·rw[if_pos (show (a:Int)<(s.size:Int)by omega),if_pos (show 0≤(a:Int)∧(a:Int)<(s.size:Int)from⟨by omega,by omega⟩),in_eq _ (by decide),Option.bind_some,Option.bind_some,in3]
    by_cases c1:byteAt s (a:Int)=42
    ·rw[eat_y (by omega) ⟨q,c1⟩,Option.bind_some,if_pos rfl,decide_eq_true (by omega),if_pos rfl,if_pos ⟨by omega,by omega⟩,if_neg (by omega)]
     unfold F64c_c2
     rw[if_pos ⟨by omega,by omega⟩,if_neg (by omega)]
     exact go 4 (.inl rfl) q
    ·rw[eat_n (by omega) (fun h=>c1 h.2),Option.bind_some,if_neg (by simp)]
     by_cases c2:byteAt s (a:Int)=43
     ·rw[eat_y (by omega) ⟨q,c2⟩,Option.bind_some,if_pos rfl,decide_eq_true (by omega),if_pos rfl,if_pos ⟨by omega,by omega⟩,if_pos c2]
      unfold F64c_c2
      rw[if_pos ⟨by omega,by omega⟩,if_neg (by omega)]
      exact go 5 (.inr (.inl rfl)) q
     ·rw[eat_n (by omega) (fun h=>c2 h.2),Option.bind_some,if_neg (by simp)]
      by_cases c3:byteAt s (a:Int)=63
      ·rw[eat_y (by omega) ⟨q,c3⟩,Option.bind_some,if_pos rfl,decide_eq_true (by omega),if_pos rfl,if_pos ⟨by omega,by omega⟩,if_neg c2]
       unfold F64c_c2
       rw[if_pos ⟨by omega,by omega⟩,if_pos c3]
       exact go 6 (.inr (.inr rfl)) q
      ·rw[eat_n (by omega) (fun h=>c3 h.2),Option.bind_some,if_neg (by simp),decide_eq_false (by omega),if_neg (by simp)]
       exact⟨ser t,true,a,rfl,by omega,ha,by omega,fun _=>⟨h0,hl,rfl,t,ht,rfl⟩,fun q=>by cases q⟩
   ·rw[if_neg (show ¬ (a:Int)<(s.size:Int)by omega),Option.bind_some,if_neg (by simp),eat_n (by omega) (fun h=>q h.1),Option.bind_some,if_neg (by simp),eat_n (by omega) (fun h=>q h.1),Option.bind_some,if_neg (by simp),eat_n (by omega) (fun h=>q h.1),Option.bind_some,if_neg (by simp)]
    exact⟨ser t,true,a,rfl,by omega,ha,by omega,fun _=>⟨h0,hl,rfl,t,ht,rfl⟩,fun q=>by cases q⟩
theorem at0 {s:ByteArray} {a:Nat} (h:a<s.size):0≤(a:Int)∧(a:Int)<(s.size:Int):=⟨by omega,by omega⟩
theorem reader_eq {s:ByteArray} (hz:s.size≤90):∀ j:Nat,
 (∀ a d:Nat,a≤s.size→d≤a→4*(s.size-a)+1≤j→RE s a d (F92d_r 5000 j (S140.mk s (a:Int) (d:Int))) (F64d_r 5000 j s (a:Int) (d:Int)))∧
 (∀ a d:Nat,a≤s.size→d≤a→4*(s.size-a)+2≤j→RE s a d (F92c_r 5000 j (S140.mk s (a:Int) (d:Int))) (F64c_r 5000 j s (a:Int) (d:Int)))∧
 (∀ a d:Nat,a≤s.size→d≤a→4*(s.size-a)+3≤j→RE s a d (F92b_r 5000 j (S140.mk s (a:Int) (d:Int))) (F64b_r 5000 j s (a:Int) (d:Int)))∧
 (∀ a d:Nat,a≤s.size→d≤a→4*(s.size-a)+4≤j→RE s a d (F92a_r 5000 j (S140.mk s (a:Int) (d:Int))) (F64a_r 5000 j s (a:Int) (d:Int)))
 | 0=>⟨fun a d _ _ h=>by omega,fun a d _ _ h=>by omega,fun a d _ _ h=>by omega,fun a d _ _ h=>by omega⟩
 | j+1=>by
   obtain⟨i1,i2,i3,i4⟩:=reader_eq hz j
   refine⟨fun a d ha hd hj=>?_,fun a d ha hd hj=>?_,fun a d ha hd hj=>?_,fun a d ha hd hj=>?_⟩
   ·rw[F92d_r.eq_2,F64d_r.eq_2,end_eq s a _ _ (by decide),Option.bind_some]
    by_cases q:a<s.size
    ·have g:=at0 q
     rw[if_neg (show ¬ (s.size:Int)≤(a:Int)by omega),if_pos g,in_eq _ (by decide),Option.bind_some,Option.bind_some,decide_eq_false (show ¬ s.size≤a by omega),Bool.false_or]
     cases hb:inB (ByteArray.mk #[124,41,42,43,63,93,47,34]) (byteAt s (a:Int))with
     | true=>rw[if_pos rfl,if_pos rfl];exact RE.no (Nat.le_refl _) ha (by simp)
     | false=>
       rw[if_neg (by simp),if_neg (by simp),if_pos g]
       have e1:w64 ((a:Int)+1)=((a+1:Nat):Int):=by rw[w6t (by omega) (by omega)];rfl
       by_cases c1:byteAt s (a:Int)=46
       ·obtain⟨c,d1,d2,d3,d4⟩:=dot_eq
        rw[eat_y (by omega) ⟨q,c1⟩,Option.bind_some,if_pos rfl,d1,Option.bind_some,if_pos c1,show (Vector.replicate 4 (0:Int))=VZ from rfl,d2,Option.bind_some,e1]
        exact⟨_,true,a+1,rfl,by omega,by omega,by simp,fun _=>⟨by omega,by simp,rfl,.one c,⟨d3,d4⟩,rfl⟩,fun h=>by cases h⟩
       rw[eat_n (by omega) (fun h=>c1 h.2),Option.bind_some,if_neg (by simp),if_neg c1,if_pos g]
       by_cases c2:byteAt s (a:Int)=126
       ·rw[eat_y (by omega) ⟨q,c2⟩,Option.bind_some,if_pos rfl,if_pos c2,e1]
        exact⟨_,true,a+1,rfl,by omega,by omega,by simp,fun _=>⟨by omega,by simp,rfl,.non,trivial,rfl⟩,fun h=>by cases h⟩
       rw[eat_n (by omega) (fun h=>c2 h.2),Option.bind_some,if_neg (by simp),if_neg c2,if_pos g]
       by_cases c3:byteAt s (a:Int)=40
       ·rw[eat_y (by omega) ⟨q,c3⟩,Option.bind_some,if_pos rfl,if_neg (by omega),if_pos g,if_pos c3,if_neg (show ¬ (99:Int)≤(d:Int)by omega)]
        have e2:w64 ((d:Int)+1)=((d+1:Nat):Int):=by rw[w6t (by omega) (by omega)];rfl
        show RE s a d ((F92a_r 5000 j (S140.mk s ((a+1:Nat):Int) (w64 ((d:Int)+1)))).bind _) _
        rw[e1,e2]
        obtain⟨l,ok,a',e,k1,k2,k3,k4,k5⟩:=i4 (a+1) (d+1) (by omega) (by omega) (by omega)
        rw[e,Option.bind_some]
        have e3:w64 (((d+1:Nat):Int) -1)=(d:Int):=by rw[w6t (by omega) (by omega)];omega
        cases ok with
        | false=>
          obtain⟨z,hw⟩:=k5 rfl
          rw[hw,Option.bind_some,if_neg (by simp),Option.bind_some]
          show RE s a d (some (l,false,S140.mk s (a':Int) (w64 (((d+1:Nat):Int) -1)))) _
          rw[e3,if_pos rfl,Option.bind_some,if_pos rfl]
          exact RE.no (by omega) k2 (by omega)
        | true=>
          obtain⟨m1,m2,hw,t,ht,rfl⟩:=k4 rfl
          rw[hw,Option.bind_some,if_pos rfl]
          show RE s a d (Option.bind (if w64 (((d+1:Nat):Int) -1)<99 then(F116 5000 (S140.mk s (a':Int) (w64 (((d+1:Nat):Int) -1))) 41).bind _ else _) _) _
          rw[e3,if_pos (show (d:Int)<99 by omega),if_neg ser_ne]
          by_cases q2:a'<s.size∧byteAt s (a':Int)=41
          ·have q2a:=q2.1
           have e4:w64 ((a':Int)+1)=((a'+1:Nat):Int):=by rw[w6t (by omega) (by omega)];rfl
           rw[eat_y (by omega) q2,Option.bind_some,Option.bind_some,if_neg (show ¬ (s.size:Int)≤(a':Int)by omega),if_pos (at0 q2a),Option.bind_some,decide_eq_false (fun h=>h q2.2),if_neg (by simp),e4]
           exact⟨ser t,true,a'+1,rfl,by omega,by omega,by omega,fun _=>⟨by omega,by omega,rfl,t,ht,rfl⟩,fun h=>by cases h⟩
          ·rw[eat_n (by omega) q2,Option.bind_some,Option.bind_some]
           have e5:(if(s.size:Int)≤(a':Int)then some true else if 0≤(a':Int)∧(a':Int)<(s.size:Int)then some (decide (byteAt s (a':Int)≠41))else none)=some true:=by
            by_cases k:a'<s.size
            ·rw[if_neg (by omega),if_pos (at0 k)];exact congrArg some (decide_eq_true (fun h=>q2 ⟨k,h⟩))
            ·rw[if_pos (by omega)]
           show RE s a d _ (Option.bind (if(s.size:Int)≤(a':Int)then some true else if 0≤(a':Int)∧(a':Int)<(s.size:Int)then some (decide (byteAt s (a':Int)≠41))else none) _)
           rw[e5,Option.bind_some,if_pos rfl]
           exact RE.no (l:=ser t) (by omega) k2 (by omega)
       rw[eat_n (by omega) (fun h=>c3 h.2),Option.bind_some,if_neg (by simp)]
       by_cases c4:byteAt s (a:Int)=91
       ·rw[eat_y (by omega) ⟨q,c4⟩,Option.bind_some,if_pos rfl,if_pos c4,e1]
        obtain⟨l,ok,a',e,k1,k2,kl,k3,k4⟩:=br_eq (s:=s) (by omega) (a:=a+1) (by omega) (d:Int)
        rw[e,Option.bind_some]
        cases ok with
        | false=>
          obtain⟨z,hw⟩:=k4 rfl
          rw[hw,Option.bind_some]
          refine⟨l,false,a',rfl,by omega,k2,by omega,(fun h=>by cases h),fun _=>⟨z,rfl⟩⟩
        | true=>
          obtain⟨m1,hw,v,rfl,hv,hv2⟩:=k3 rfl
          rw[hw,Option.bind_some]
          exact⟨_,true,a',rfl,by omega,k2,by simp,fun _=>⟨by omega,by simp;omega,rfl,.one v,⟨hv,hv2⟩,rfl⟩,fun h=>by cases h⟩
       rw[eat_n (by omega) (fun h=>c4 h.2),Option.bind_some,if_neg (by simp),if_neg c4,if_pos g,if_neg c3,if_pos ⟨by omega,by omega,Int.le_refl _⟩,Int.toNat_natCast,Int.toNat_natCast]
       obtain⟨c,ok,n,b1,b2,b3,b4,b5⟩:=rbyte_eq s (by omega) ha (d:Int)
       show RE s a d ((F144 5000 (S140.mk s (a:Int) (d:Int))).bind _) _
       obtain⟨v,v1,v2,v3,v4⟩:=one_eq b3
       rw[b1,b2,Option.bind_some,Option.bind_some,v1,Option.bind_some]
       cases ok with
       | false=>
         show RE s a d (some ([S131.mk 1 v],false,S140.mk s ((a+n:Nat):Int) (d:Int))) (some ([],(a:Int)))
         exact RE.no (by omega) b4 (by simp)
       | true=>
         have n1:=b5 rfl
         show RE s a d _ (if 0≤(256:Int)∧(256:Int)*1≤140737488355328∧(256:Int)≤9223372036854775807 then _ else none)
         rw[if_pos (by decide)]
         show RE s a d _ (if 0≤(c:Int)∧(c:Int)<((List.replicate 256 false).length:Int)then(F139 5000 (lset (List.replicate 256 false) (c:Int) true)).bind _ else none)
         have e6:w64 ((a:Int)+(n:Int))=((a+n:Nat):Int):=by rw[w6t (by omega) (by omega)];rfl
         rw[if_pos ⟨by omega,by simp;omega⟩,v2,Option.bind_some]
         show RE s a d _ (some ([S131.mk 1 v],w64 ((a:Int)+(n:Int))))
         rw[e6]
         exact⟨_,true,a+n,rfl,by omega,by omega,by simp,fun _=>⟨by omega,by simp;omega,rfl,.one v,⟨v3,v4⟩,rfl⟩,fun h=>by cases h⟩
    ·rw[if_pos (show (s.size:Int)≤(a:Int)by omega),Option.bind_some,if_pos rfl,decide_eq_true (show s.size≤a by omega),Bool.true_or,if_pos rfl]
     exact RE.no (Nat.le_refl _) ha (by simp)
   ·rw[F92c_r.eq_2,F64c_r.eq_2]
    obtain⟨l,ok,a',e,k1,k2,k3,k4,k5⟩:=i1 a d ha hd (by omega)
    rw[e,Option.bind_some]
    cases ok with
    | false=>
      obtain⟨z,hw⟩:=k5 rfl
      rw[hw,Option.bind_some]
      show RE s a d (F92c_l1 5000 (l,false,S140.mk s (a':Int) (d:Int)) (4999+1) s (a':Int) (d:Int) l) (F64c_l3 5000 s (4999+1) z [])
      rw[F92c_l1.eq_2,F64c_l3.eq_2,if_neg (by simp),if_neg (by simp),Option.bind_some,if_neg (by simp)]
      exact RE.no k1 k2 (by simp)
    | true=>
      obtain⟨m1,m2,hw,t,ht,rfl⟩:=k4 rfl
      rw[hw,Option.bind_some]
      exact rep_e hz (ser t,true,S140.mk s (a':Int) (d:Int)) rfl 4000 a' 5000 5000 t (by omega) (by decide) (by decide) m1 k2 ht m2
   ·rw[F92b_r.eq_2,F64b_r.eq_2]
    obtain⟨l,ok,a',e,k1,k2,k3,k4,k5⟩:=i2 a d ha hd (by omega)
    rw[e,Option.bind_some]
    cases ok with
    | false=>
      obtain⟨z,hw⟩:=k5 rfl
      rw[hw,Option.bind_some]
      show RE s a d (F92b_l1 5000 _ (4999+1) s (a':Int) (d:Int) l false) (F64b_l1 5000 _ s (d:Int) (4999+1) z [])
      rw[F92b_l1.eq_2,F64b_l1.eq_2,if_neg (by simp),if_neg (by simp),Option.bind_some,Option.bind_some,if_neg (by simp),if_neg (by simp)]
      exact RE.no k1 k2 k3
    | true=>
      obtain⟨m1,m2,hw,t,ht,rfl⟩:=k4 rfl
      rw[hw,Option.bind_some]
      exact cat_e hz (a0:=a) (d:=d) (fun a2 h1 h2=>i2 a2 d h2 (by omega) (by omega)) 4000 a' 5000 5000 t (by omega) (by decide) (by decide) m1 k2 ht m2
   ·rw[F92a_r.eq_2,F64a_r.eq_2]
    obtain⟨l,ok,a',e,k1,k2,k3,k4,k5⟩:=i3 a d ha hd (by omega)
    rw[e,Option.bind_some]
    cases ok with
    | false=>
      obtain⟨z,hw⟩:=k5 rfl
      rw[hw,Option.bind_some]
      show RE s a d (F92a_l1 5000 _ (4999+1) s (a':Int) (d:Int) l false) (F64a_l1 5000 _ s (d:Int) (4999+1) z [])
      rw[F92a_l1.eq_2,F64a_l1.eq_2,if_neg (by simp),if_neg (by simp),Option.bind_some,Option.bind_some,if_neg (by simp)]
      exact RE.no k1 k2 k3
    | true=>
      obtain⟨m1,m2,hw,t,ht,rfl⟩:=k4 rfl
      rw[hw,Option.bind_some]
      exact alt_e hz (a0:=a) (d:=d) (fun a2 h1 h2=>i3 a2 d h2 (by omega) (by omega)) 4000 a' 5000 5000 t (by omega) (by decide) (by decide) m1 k2 ht m2
theorem parse_eq {s:ByteArray} (hz:s.size≤90):(∃ t,ROK t∧(ser t).length≤2*s.size∧F73 5000 s=some (ser t,0)∧F33 5000 s=some (ser t,0))∨(F73 5000 s=some ([],5)∧F33 5000 s=some ([],5)):=by
 obtain⟨l,ok,a',e,k1,k2,k3,k4,k5⟩:=(reader_eq hz 5000).2.2.2 0 0 (by omega) (by omega) (by omega)
 have e:F92a 5000 (S140.mk s 0 0)=some (l,ok,S140.mk s (a':Int) 0):=e
 unfold F73 F33
 rw[if_neg (by omega),if_neg (by omega),e,Option.bind_some]
 cases ok with
 | false=>
   obtain⟨z,hw⟩:=k5 rfl
   have hw:F64a 5000 s 0 0=some ([],z):=hw
   rw[hw]
   exact .inr ⟨rfl,rfl⟩
 | true=>
   obtain⟨m1,m2,hw,t,ht,rfl⟩:=k4 rfl
   have hw:F64a 5000 s 0 0=some (ser t,(a':Int)):=hw
   rw[hw,Option.bind_some,if_neg (by simp),if_neg ser_ne,Option.bind_some]
   by_cases q:a'<s.size
   ·refine .inr ⟨?_,?_⟩<;>(show (if decide ((a':Int)<(s.size:Int))=true then some (([]:List S131),(5:Int))else if(400:Int)<((ser t).length:Int)then some ([],6)else some (ser t,0))=_;rw[decide_eq_true (show ((a':Nat):Int)<(s.size:Int)by omega),if_pos rfl])
   ·refine .inl ⟨t,ht,by omega,?_,?_⟩<;>(show (if decide ((a':Int)<(s.size:Int))=true then some (([]:List S131),(5:Int))else if(400:Int)<((ser t).length:Int)then some ([],6)else some (ser t,0))=_;rw[decide_eq_false (show ¬ ((a':Nat):Int)<(s.size:Int)by omega),if_neg (by simp),if_neg (by omega)])
def Bytes (p0:S55):Prop:=∀ c:Int,0≤vget p0.f0 c∧vget p0.f0 c≤255
def stp (p0:S55) (s c:Int):Int:=if s<0∨(p0.f1.length:Int)≤s∨((lget p0.f1 s).length:Int)≤vget p0.f0 c then -1 else lget (lget p0.f1 s) (vget p0.f0 c)
def mk (p0:S55) (s:Int):Int:=if s<0∨(p0.f2.length:Int)≤s then -1 else lget p0.f2 s
theorem mark_eq (p0:S55) (k:Nat) (s:Int):F112 k p0 s=some (mk p0 s):=by
 unfold F112 mk
 by_cases a:s<0
 ·simp[a]
 ·by_cases b:(p0.f2.length:Int)≤s
  ·simp[a,b]
  ·simp[a,b]
theorem stp_neg (p0:S55) (c:Int):stp p0 (-1) c= -1:=by simp[stp]
theorem mk_neg (p0:S55):mk p0 (-1)= -1:=by simp[mk]
theorem small_l {p0:S55} (k:Nat) (hn:p0.f1.length≤20):∀ (m i:Nat),i≤p0.f1.length→p0.f1.length-i<m→∃ b,F27_l1 k p0 m i=some b∧(b=true→∀ j,i≤j→(h:j<p0.f1.length)→(p0.f1[j]).length≤256)
 | 0,i,_,h=>by omega
 | m+1,i,hi,h=>by
   rw[F27_l1.eq_2]
   by_cases a:(i:Int)<(p0.f1.length:Int)
   ·have hlt:i<p0.f1.length:=by omega
    have hrow:lget p0.f1 (i:Int)=p0.f1[i]:=by simp[lget,List.getD,List.getElem?_eq_getElem hlt]
    rw[if_pos a,if_pos ⟨by omega,a⟩,hrow]
    by_cases b:(256:Int)<((p0.f1[i]).length:Int)
    ·rw[if_pos b];exact⟨false,rfl,fun h=>by cases h⟩
    ·rw[if_neg b,w64_id (by omega) (by omega)]
     obtain⟨c,h1,h2⟩:=small_l k hn m (i+1) (by omega) (by omega)
     refine⟨c,by simpa using h1,fun hc j hj hlt'=>?_⟩
     by_cases e:j=i
     ·subst e;omega
     ·exact h2 hc j (by omega) hlt'
   ·rw[if_neg a];exact⟨true,rfl,fun _ j hj hlt=>by omega⟩
theorem small_some (p0:S55) {k:Nat} (hk:5000≤k):∃ b,F27 k p0=some b∧(b=true→p0.f1.length≤20∧p0.f2.length≤30∧∀ r∈p0.f1,r.length≤256):=by
 unfold F27
 by_cases a:(20:Int)<(p0.f1.length:Int)
 ·rw[if_pos a,Option.bind_some,if_pos rfl];exact⟨_,rfl,fun h=>by cases h⟩
 ·rw[if_neg a,Option.bind_some]
  by_cases b:(30:Int)<(p0.f2.length:Int)
  ·rw[if_pos (by simpa using b)];exact⟨_,rfl,fun h=>by cases h⟩
  ·rw[if_neg (by simpa using b)]
   obtain⟨c,h1,h2⟩:=small_l (p0:=p0) k (by omega) k 0 (by omega) (by omega)
   refine⟨c,by simpa using h1,fun hc=>⟨by omega,by omega,fun r hr=>?_⟩⟩
   obtain⟨j,hj,rfl⟩:=List.getElem_of_mem hr
   exact h2 hc j (by omega) hj
theorem gN_rt {t:Rx} (ht:ROK t) (hz:(ser t).length≤200):Rt (gN t):=by
 have g:=gIO t 0
 have hq:((qb t 0:Nat):Int)=((2*(ser t).length:Nat):Int):=by unfold qb;omega
 have gl:=gr_len t 0
 refine⟨⟨by show 0≤gI t 0;omega,by show gI t 0<((2*(ser t).length:Nat):Int);omega⟩,⟨by show 0≤gO t 0;omega,by show gO t 0<((2*(ser t).length:Nat):Int);omega⟩,fun e he=>?_,by show ((2*(ser t).length:Nat):Int)≤1000;omega,by show (gr t 0).length≤1000;omega,fun e he=>(gr_rng t 0 ht e he).2.2.2.2⟩
 obtain⟨a,b,c,d,_⟩:=gr_rng t 0 ht e he
 exact⟨by omega,by show _<((2*(ser t).length:Nat):Int);omega,by omega,by show _<((2*(ser t).length:Nat):Int);omega⟩
theorem PW.fr {l:List S152} {p r:Int} {w:List Nat} (h:PW l p w r):w=[]→FR l p r:=by
 induction h with
 | nil p=>exact fun _=>.refl p
 | eps he hf _ ih=>exact fun k=>(FR.tail (.refl _) he hf).trans (ih k)
 | byte _ _ _ _ _=>exact fun k=>by cases k
theorem FR.pw {l:List S152} {p r:Int} (h:FR l p r):PW l p [] r:=by
 induction h with
 | refl=>exact .nil _
 | tail _ he hf ih=>exact ih.app (.eps he hf (.nil _))
theorem lget_lsetI (l:List Int) (i q:Nat) (b:Int) (h1:i<l.length):lget (lset l (i:Int) b) (q:Int)=if q=i then b else lget l (q:Int):=by
 unfold lget lset
 rw[List.getD,List.getD,List.getElem?_set,Int.toNat_natCast,Int.toNat_natCast]
 by_cases e:i=q
 ·rw[if_pos e,if_pos (by omega),if_pos e.symm];rfl
 ·rw[if_neg e,if_neg (fun h=>e h.symm)]
theorem fill_eq (n:S121) (hN:NN n≤1000) (h0:0≤n.f0):∀ (m i f:Nat) (x:List Int),i+m=NN n→m<f→x.length=NN n→(∀ q,q<i→lget x ((q:Nat):Int)= -1)→∃ y,y.length=NN n∧(∀ q,q<NN n→lget y ((q:Nat):Int)= -1)∧F77_l1 5000 n f x (i:Int)=F77_c0 5000 n y
 | 0,i,f+1,x,hi,hf,hx,hq=>⟨x,hx,fun q h=>hq q (by omega),by rw[F77_l1.eq_2,List.length_replicate,show n.f0.toNat=NN n from rfl,if_neg (by omega)]⟩
 | m+1,i,f+1,x,hi,hf,hx,hq=>by
   obtain⟨y,y1,y2,y3⟩:=fill_eq n hN h0 m (i+1) f (lset x (i:Int) (-1)) (by omega) (by omega) (by rw[lset_len,hx]) (fun q h=>by
    rw[lget_lsetI _ _ _ _ (by omega)]
    by_cases e:q=i
    ·rw[if_pos e]
    ·rw[if_neg e];exact hq q (by omega))
   refine⟨y,y1,y2,?_⟩
   rw[F77_l1.eq_2,List.length_replicate,show n.f0.toNat=NN n from rfl,if_pos (by omega),if_pos ⟨by omega,by omega⟩,w6t (by omega) (by omega)]
   exact_mod_cast y3
theorem mkl_one {M:List Int} {t:List Bool} {la:Nat} (hM:M.length=t.length) (hla:la<t.length) (h:∀ q:Nat,q<t.length→lget M (q:Int)=if q=la then 0 else -1):∀ (m i:Nat) (o:Int),i+m=t.length→(o= -1∨o=0)→mkl M t m i o=if o=0∨(i≤la∧lget t (la:Int)=true)then 0 else -1
 | 0,i,o,hi,ho=>by
   show o=_
   split
   ·next c=>rcases c with c|c
            ·exact c
            ·omega
   ·next c=>rcases ho with ho|ho
            ·exact ho
            ·exact absurd (.inl ho) c
 | m+1,i,o,hi,ho=>by
   rw[mkl]
   have e:mk1 M t i o=if o=0∨(i=la∧lget t (la:Int)=true)then 0 else -1:=by
    unfold mk1
    rw[h i (by omega)]
    by_cases a:i=la
    ·subst a
     rw[if_pos rfl]
     by_cases b:lget t (i:Int)=true
     ·rw[if_pos (show o=0∨_ from .inr ⟨rfl,b⟩)]
      rcases ho with ho|ho
      ·rw[if_pos ⟨b,by omega,by omega,.inl (by omega)⟩]
      ·split
       ·rfl
       ·exact ho
     ·rw[if_neg (fun c=>b c.1)]
      rcases ho with ho|ho
      ·rw[if_neg (fun c=>by rcases c with c|c;omega;exact b c.2)];exact ho
      ·rw[if_pos (.inl ho)];exact ho
    ·rw[if_neg a,if_neg (fun c=>by have:=c.2.2.1;omega)]
     rcases ho with ho|ho
     ·rw[if_neg (fun c=>by rcases c with c|c;omega;exact a c.1)];exact ho
     ·rw[if_pos (.inl ho)];exact ho
   rw[e,mkl_one hM hla h m (i+1) _ (by omega) (by split<;>simp)]
   by_cases c:o=0
   ·rw[if_pos (.inl c:o=0∨(i=la∧lget t (la:Int)=true)),if_pos (.inl rfl),if_pos (.inl c)]
   ·by_cases a:i=la∧lget t (la:Int)=true
    ·rw[if_pos (.inr a:o=0∨(i=la∧lget t (la:Int)=true)),if_pos (.inl rfl),if_pos (.inr ⟨by omega,a.2⟩)]
    ·rw[if_neg (by rintro (d|d);exact c d;exact a d:¬ (o=0∨(i=la∧lget t (la:Int)=true)))]
     by_cases d:i+1≤la∧lget t (la:Int)=true
     ·rw[if_pos (.inr d),if_pos (.inr ⟨by omega,d.2⟩)]
     ·rw[if_neg (by rintro (f|f);omega;exact d f),if_neg (by
       rintro (f|f)
       ·exact c f
       ·by_cases g:i=la
        ·exact a ⟨g,f.2⟩
        ·exact d ⟨by omega,f.2⟩)]
def fS (n:S121) (S:List Bool) (w:List Nat):List Bool:=w.foldl (fun S b=>CL n (MV n S b)) S
theorem fS_len {n:S121} {S:List Bool} (hS:S.length=NN n):∀ w:List Nat,(fS n S w).length=NN n
 | []=>hS
 | b::w=>fS_len (st_len n S b) w
theorem PW.inv {l:List S152} {p r:Int} {w:List Nat} (h:PW l p w r):∀ (b:Nat) (v:List Nat),w=b::v→∃ e∈l,FR l p e.f0∧e.f3=false∧tb e.f2 b=true∧PW l e.f1 v r:=by
 induction h with
 | nil=>exact fun b v k=>by cases k
 | @eps e w r he hf k ih=>
   intro b v hw
   obtain⟨e',m1,m2,m3⟩:=ih b v hw
   exact⟨e',m1,(FR.tail (.refl _) he hf).trans m2,m3⟩
 | byte he hf hb k _=>
   intro b v hw
   obtain⟨rfl,rfl⟩:=List.cons.inj hw
   exact⟨_,he,.refl _,hf,hb,k⟩
def Clo (n:S121) (S:List Bool):Prop:=∀ p q:Int,0≤p→0≤q→lget S p=true→FR n.f1 p q→lget S q=true
theorem CL_clo {n:S121} (h:Rt n) {x:List Bool} (hx:x.length=NN n):Clo n (CL n x):=by
 intro p q hp hq k f
 obtain⟨r,r0,r1,r2⟩:=(CL_iff h hx hp).1 k
 exact(CL_iff h hx hq).2 ⟨r,r0,r1,r2.trans f⟩
theorem FR.nn {n:S121} (h:Rt n) {p q:Int} (hp:0≤p) (k:FR n.f1 p q):0≤q:=by
 induction k with
 | refl=>exact hp
 | tail _ he _ _=>exact(h.ed _ he).2.2.1
theorem fS_iff {n:S121} (h:Rt n) {q:Int} (hq:0≤q):∀ (w:List Nat) (S:List Bool),S.length=NN n→Clo n S→(lget (fS n S w) q=true↔∃ p,0≤p∧lget S p=true∧PW n.f1 p w q)
 | [],S,hS,hc=>by
   show lget S q=true↔_
   exact⟨fun k=>⟨q,hq,k,.nil q⟩,fun⟨p,p0,p1,p2⟩=>hc p q p0 hq p1 (p2.fr rfl)⟩
 | b::w,S,hS,hc=>by
   have hl:=MV_len n S b
   have hn:=h.nn
   show lget (fS n (CL n (MV n S b)) w) q=true↔_
   rw[fS_iff h hq w (CL n (MV n S b)) (st_len n S b) (CL_clo h hl)]
   constructor
   ·rintro⟨p,p0,p1,p2⟩
    obtain⟨r,r0,r1,r2⟩:=(CL_iff h hl p0).1 p1
    obtain⟨e,he,hf,_,hs,hb,rfl⟩:=(MV_iff h S b r0).1 r1
    refine⟨e.f0,(h.ed e he).1,hs,.byte he hf hb ?_⟩
    have:=r2.pw.app p2
    exact this
   ·rintro⟨p,p0,p1,p2⟩
    obtain⟨e,he,m1,hf,hb,m2⟩:=p2.inv b w rfl
    have e0:=h.ed e he
    have hs:=hc p e.f0 p0 e0.1 p1 m1
    exact⟨e.f1,e0.2.2.1,(CL_iff h hl e0.2.2.1).2 ⟨e.f1,e0.2.2.1,(MV_iff h S b e0.2.2.1).2 ⟨e,he,hf,by omega,hs,hb,rfl⟩,.refl _⟩,m2⟩
theorem fS_lang {t:Rx} (ht:ROK t) (hz:(ser t).length≤200) (w:List Nat):lget (fS (gN t) (F0 (gN t)) w) (gO t 0)=true↔Lx t w:=by
 have h:=gN_rt ht hz
 have hf:=h.first
 have hn:=h.nn
 have hl:=h.last
 have hx:(lset (List.replicate (NN (gN t)) false) (gN t).f2 true).length=NN (gN t):=by rw[lset_len,List.length_replicate]
 rw[←gr_lang ht 0,fS_iff h (show (0:Int)≤gO t 0 from hl.1) w _ (F0_len _) (CL_clo h hx)]
 constructor
 ·rintro⟨p,p0,hp,k⟩
  unfold F0 at hp
  obtain⟨r,r0,r1,r2⟩:=(CL_iff h hx p0).1 hp
  rw[lget_lset _ _ _ hf.1 (by rw[List.length_replicate];omega) r0,lget_rep,Bool.or_false,decide_eq_true_eq]at r1
  subst r1
  have:=r2.pw.app k
  exact this
 ·intro k
  refine⟨(gN t).f2,hf.1,?_,k⟩
  exact(CL_iff h hx hf.1).2 ⟨(gN t).f2,hf.1,by rw[lget_lset _ _ _ hf.1 (by rw[List.length_replicate];omega) hf.1];simp,.refl _⟩
def allB (p:Nat→Bool):Nat→Nat→Bool
 | 0,_=>true
 | m+1,i=>p i&&allB p m (i+1)
def anyB' (p:Nat→Bool):Nat→Nat→Bool
 | 0,_=>false
 | m+1,i=>p i||anyB' p m (i+1)
theorem allB_iff (p:Nat→Bool):∀ (m i:Nat),allB p m i=true↔∀ j,i≤j→j<i+m→p j=true
 | 0,i=>by simp[allB];omega
 | m+1,i=>by
   rw[allB,Bool.and_eq_true,allB_iff p m (i+1)]
   constructor
   ·rintro⟨h1,h2⟩ j hj hj'
    by_cases e:j=i
    ·rw[e];exact h1
    ·exact h2 j (by omega) (by omega)
   ·intro h
    exact⟨h i (by omega) (by omega),fun j hj hj'=>h j (by omega) (by omega)⟩
theorem anyB_iff (p:Nat→Bool):∀ (m i:Nat),anyB' p m i=true↔∃ j,i≤j∧j<i+m∧p j=true
 | 0,i=>by simp[anyB'];omega
 | m+1,i=>by
   rw[anyB',Bool.or_eq_true,anyB_iff p m (i+1)]
   constructor
   ·rintro (h|⟨j,h1,h2,h3⟩)
    ·exact⟨i,by omega,by omega,h⟩
    ·exact⟨j,by omega,by omega,h3⟩
   ·rintro⟨j,h1,h2,h3⟩
    by_cases e:j=i
    ·exact .inl (e▸h3)
    ·exact .inr ⟨j,by omega,by omega,h3⟩
def kc (v:Vector Int 256):Nat→Int
 | 0=>0
 | b+1=>max (kc v b) (vget v (b:Int)+1)
def kcl (v:Vector Int 256):Int:=kc v 256
def VB (v:Vector Int 256):Prop:=∀ c:Int,0≤vget v c∧vget v c≤255
theorem kc_rng {v:Vector Int 256} (h:VB v):∀ b:Nat,0≤kc v b∧kc v b≤256
 | 0=>by simp[kc]
 | b+1=>by
   have:=kc_rng h b
   have:=h (b:Int)
   rw[kc];omega
theorem kc_lt {v:Vector Int 256}:∀ (m b:Nat),b<m→vget v (b:Int)<kc v m
 | 0,b,h=>by omega
 | m+1,b,h=>by
   rw[kc]
   by_cases e:b=m
   ·subst e;omega
   ·have:=kc_lt (v:=v) m b (by omega);omega
theorem kcl_lt {v:Vector Int 256} {b:Nat} (h:b<256):vget v (b:Int)<kcl v:=kc_lt 256 b h
theorem w64s {x:Int} (h0: -1000000000000≤x) (h1:x≤1000000000000):w64 x=x:=w64_id (by omega) (by omega)
theorem count_l {v:Vector Int 256} (h:VB v):∀ (m b fuel:Nat),b+m=256→m<fuel→F101_l1 5000 v fuel (kc v b) (b:Int)=some (kcl v)
 | 0,b,f+1,hb,_=>by
   rw[F101_l1.eq_2,if_neg (by omega),F101_c0,show b=256 by omega];rfl
 | m+1,b,f+1,hb,hf=>by
   have h0:=h (b:Int)
   have ih:=count_l h m (b+1) f (by omega) (by omega)
   rw[F101_l1.eq_2,if_pos (by omega),if_pos ⟨by omega,by omega⟩,w64s (x:=vget v (b:Int)) (by omega) (by omega),w64s (by omega) (by omega),w64s (by omega) (by omega)]
   rw[kc]at ih
   exact_mod_cast ih
theorem count_eq {v:Vector Int 256} (h:VB v):F101 5000 v=some (kcl v):=count_l h 256 0 5000 (by omega) (by omega)
theorem classes_l {d:S55} (h:VB d.f0):∀ (m b fuel:Nat),b+m=256→m<fuel→F57_l1 5000 d fuel (kc d.f0 b) (b:Int)=some (kcl d.f0)
 | 0,b,f+1,hb,_=>by
   rw[F57_l1.eq_2,if_neg (by omega),F57_c0,show b=256 by omega];rfl
 | m+1,b,f+1,hb,hf=>by
   have h0:=h (b:Int)
   have ih:=classes_l h m (b+1) f (by omega) (by omega)
   rw[F57_l1.eq_2,if_pos (by omega),if_pos ⟨by omega,by omega⟩,w64s (x:=vget d.f0 (b:Int)) (by omega) (by omega),w64s (by omega) (by omega),w64s (by omega) (by omega)]
   rw[kc]at ih
   exact_mod_cast ih
theorem classes_eq {d:S55} (h:VB d.f0):F57 5000 d=some (kcl d.f0):=classes_l h 256 0 5000 (by omega) (by omega)
def hasB (v:Vector Int 256) (c:Nat):Bool:=anyB' (fun b=>decide (vget v (b:Int)=(c:Int))) 256 0
def gapB (v:Vector Int 256):Bool:=allB (hasB v) (kcl v).toNat 0
theorem hasB_iff (v:Vector Int 256) (c:Nat):hasB v c=true↔∃ b:Nat,b<256∧vget v (b:Int)=c:=by
 unfold hasB
 rw[anyB_iff]
 constructor
 ·rintro⟨b,_,h2,h3⟩;exact⟨b,by omega,of_decide_eq_true h3⟩
 ·rintro⟨b,h1,h2⟩;exact⟨b,by omega,by omega,decide_eq_true h2⟩
theorem rgap_l3 {d:S55} (h:VB d.f0) (rec4:Int→Option Bool) (c:Nat):∀ (m b fuel:Nat) (acc:Bool),b+m=256→m<fuel→
 F56_l3 5000 rec4 d (c:Int) fuel acc (b:Int)=F56_c2 5000 rec4 (c:Int) (acc||anyB' (fun b=>decide (vget d.f0 (b:Int)=(c:Int))) m b)
 | 0,b,f+1,acc,hb,_=>by
   rw[F56_l3.eq_2,if_neg (by omega),anyB',Bool.or_false]
 | m+1,b,f+1,acc,hb,hf=>by
   have h0:=h (b:Int)
   have ih:=fun acc=>rgap_l3 h rec4 c m (b+1) f acc (by omega) (by omega)
   have g:0≤(b:Int)∧(b:Int)<256:=⟨by omega,by omega⟩
   rw[F56_l3.eq_2,if_pos (by omega),w64s (x:=vget d.f0 (b:Int)) (by omega) (by omega),if_pos g]
   have key:(if acc=true then some true else some (decide (vget d.f0 (b:Int)=(c:Int))))=some (acc||decide (vget d.f0 (b:Int)=(c:Int))):=by cases acc<;>simp
   rw[key,Option.bind_some,w64s (by omega) (by omega),show (b:Int)+1=((b+1:Nat):Int)by omega,ih,anyB',Bool.or_assoc]
theorem rgap_l4 {d:S55} (h:VB d.f0):∀ (m c fuel:Nat),(c:Int)+m=kcl d.f0→m<fuel→F56_l4 5000 d fuel (c:Int)=some (allB (hasB d.f0) m c)
 | 0,c,f+1,hc,_=>by
   rw[F56_l4.eq_2,classes_eq h,Option.bind_some,if_neg (by omega),F56_c0];rfl
 | m+1,c,f+1,hc,hf=>by
   have h1:=kc_rng h 256
   have h2:kcl d.f0=kc d.f0 256:=rfl
   have ih:=rgap_l4 h m (c+1) f (by omega) (by omega)
   have e:=rgap_l3 h (F56_l4 5000 d f) c 256 0 5000 false (by omega) (by omega)
   rw[Int.natCast_zero]at e
   rw[F56_l4.eq_2,classes_eq h,Option.bind_some,if_pos (by omega),e,Bool.false_or,F56_c2,allB]
   show (if(!hasB d.f0 c)=true then some false else _)=_
   cases hasB d.f0 c with
   | false=>rfl
   | true=>
     rw[if_neg (by decide),F56_c1,w64s (by omega) (by omega),Bool.true_and]
     exact_mod_cast ih
theorem rgap_eq {d:S55} (h:VB d.f0):F56 5000 d=some (gapB d.f0):=by
 have h1:=kc_rng h 256
 have h2:kcl d.f0=kc d.f0 256:=rfl
 exact rgap_l4 h (kcl d.f0).toNat 0 5000 (by omega) (by omega)
theorem gap_l1 (x:List Bool) (hx:x.length≤2000):∀ (m i fuel:Nat),i+m=x.length→m<fuel→F102_l1 5000 x fuel (i:Int)=some (allB (fun j=>lget x (j:Int)) m i)
 | 0,i,f+1,hi,_=>by
   rw[F102_l1.eq_2,if_neg (by omega)];rfl
 | m+1,i,f+1,hi,hf=>by
   have ih:=gap_l1 x hx m (i+1) f (by omega) (by omega)
   rw[F102_l1.eq_2,if_pos (by omega),if_pos ⟨by omega,by omega⟩,allB,w64s (by omega) (by omega)]
   cases lget x (i:Int)with
   | false=>rfl
   | true=>rw[if_neg (by decide),Bool.true_and];exact_mod_cast ih
theorem gap_l3 {v:Vector Int 256} (h:VB v):∀ (m b fuel:Nat) (x:List Bool),b+m=256→m<fuel→x.length=(kcl v).toNat→(∀ c:Nat,lget x (c:Int)=true↔∃ j:Nat,j<b∧vget v (j:Int)=c)→
 ∃ y:List Bool,F102_l3 5000 v fuel x (b:Int)=F102_c2 5000 y∧y.length=(kcl v).toNat∧∀ c:Nat,lget y (c:Int)=hasB v c
 | 0,b,f+1,x,hb,_,hx,hs=>by
   rw[F102_l3.eq_2,if_neg (by omega)]
   refine⟨x,rfl,hx,fun c=>?_⟩
   rw[Bool.eq_iff_iff,hs c,hasB_iff,show b=256 by omega]
 | m+1,b,f+1,x,hb,hf,hx,hs=>by
   have h0:=h (b:Int)
   have h1:=kc_rng h 256
   have h2:kcl v=kc v 256:=rfl
   have h3:=kcl_lt (v:=v) (b:=b) (by omega)
   have hlt:vget v (b:Int)<(x.length:Int):=by omega
   rw[F102_l3.eq_2,if_pos (by omega),if_pos ⟨by omega,by omega⟩,if_pos ⟨h0.1,hlt⟩,w64s (by omega) (by omega)]
   have ih:=gap_l3 h m (b+1) f (lset x (vget v (b:Int)) true) (by omega) (by omega) (by rw[lset_len];exact hx) (fun c=>by
    rw[lget_lsetB x _ _ true h0.1 hlt (by omega)]
    constructor
    ·intro q
     by_cases e:(c:Int)=vget v (b:Int)
     ·exact⟨b,by omega,e.symm⟩
     ·rw[if_neg e]at q
      obtain⟨j,j1,j2⟩:=(hs c).1 q
      exact⟨j,by omega,j2⟩
    ·rintro⟨j,j1,j2⟩
     by_cases e:(c:Int)=vget v (b:Int)
     ·rw[if_pos e]
     ·rw[if_neg e]
      refine(hs c).2 ⟨j,?_,j2⟩
      by_cases q:j=b
      ·subst q;exact absurd j2.symm e
      ·omega)
   exact_mod_cast ih
theorem gap_eq {v:Vector Int 256} (h:VB v):F102 5000 v (kcl v)=some (gapB v):=by
 have h1:=kc_rng h 256
 have h2:kcl v=kc v 256:=rfl
 unfold F102
 rw[if_pos ⟨by omega,by omega,by omega⟩]
 obtain⟨y,y1,y2,y3⟩:=gap_l3 h 256 0 5000 (List.replicate (kcl v).toNat false) (by omega) (by omega) (by simp) (fun c=>by rw[lget_repB];simp)
 rw[Int.natCast_zero]at y1
 rw[y1,F102_c2]
 have e:=gap_l1 y (by omega) y.length 0 5000 (by omega) (by omega)
 rw[Int.natCast_zero]at e
 rw[e,gapB,y2]
 congr 1
 rw[Bool.eq_iff_iff,allB_iff,allB_iff]
 exact⟨fun q j a b=>by rw[←y3 j];exact q j a b,fun q j a b=>by rw[y3 j];exact q j a b⟩
def entB (d:S55) (r:List Int) (c:Nat):Bool:=decide (-1≤lget r (c:Int)∧lget r (c:Int)<(d.f1.length:Int))
def rowB (d:S55) (i:Nat):Bool:=decide (((lget d.f1 (i:Int)).length:Int)=kcl d.f0∧ -1≤lget d.f2 (i:Int)∧lget d.f2 (i:Int)<32768)&&allB (entB d (lget d.f1 (i:Int))) (lget d.f1 (i:Int)).length 0
def rgB (d:S55):Bool:=decide (1≤d.f1.length∧d.f2.length=d.f1.length)&&gapB d.f0&&allB (rowB d) d.f1.length 0
theorem rright_l2 {d:S55} (rec11:Int→Option Bool) (i:Nat) (hi:i<d.f1.length) (hl:(lget d.f1 (i:Int)).length≤256) (hn:d.f1.length≤2000):∀ (m c fuel:Nat),c+m=(lget d.f1 (i:Int)).length→m<fuel→
 F28_l2 5000 rec11 d (i:Int) fuel (c:Int)=if allB (entB d (lget d.f1 (i:Int))) m c=true then F28_c1 5000 rec11 (i:Int)else some false
 | 0,c,f+1,hc,_=>by
   rw[F28_l2.eq_2,if_pos ⟨by omega,by omega⟩,if_neg (by omega),allB,if_pos rfl]
 | m+1,c,f+1,hc,hf=>by
   have ih:=rright_l2 rec11 i hi hl hn m (c+1) f (by omega) (by omega)
   have g:0≤(i:Int)∧(i:Int)<(d.f1.length:Int):=⟨by omega,by omega⟩
   have g2:0≤(c:Int)∧(c:Int)<((lget d.f1 (i:Int)).length:Int):=⟨by omega,by omega⟩
   rw[F28_l2.eq_2,if_pos g,if_pos g2.2,if_pos g,if_pos g2,if_pos g,if_pos g2]
   have key:(if lget (lget d.f1 (i:Int)) (c:Int)<(-1:Int)then some true else some (decide ((d.f1.length:Int)≤lget (lget d.f1 (i:Int)) (c:Int))))=some (!entB d (lget d.f1 (i:Int)) c):=by
    unfold entB
    by_cases a:lget (lget d.f1 (i:Int)) (c:Int)<(-1:Int)
    ·rw[if_pos a,decide_eq_false (by omega)];rfl
    ·rw[if_neg a]
     by_cases b:(d.f1.length:Int)≤lget (lget d.f1 (i:Int)) (c:Int)
     ·rw[decide_eq_true b,decide_eq_false (by omega)];rfl
     ·rw[decide_eq_false b,decide_eq_true (by omega)];rfl
   rw[key,Option.bind_some,w64s (by omega) (by omega),allB]
   cases entB d (lget d.f1 (i:Int)) c with
   | false=>rfl
   | true=>rw[if_neg (by decide),Bool.true_and];exact_mod_cast ih
theorem right_l2 {d:S55} (rec12:Int→Option Bool) (i:Nat) (hi:i<d.f1.length) (hl:(lget d.f1 (i:Int)).length≤256) (hn:d.f1.length≤2000):∀ (m c fuel:Nat),c+m=(lget d.f1 (i:Int)).length→m<fuel→
 F78_l2 5000 rec12 d (i:Int) fuel (c:Int)=if allB (entB d (lget d.f1 (i:Int))) m c=true then F78_c1 5000 rec12 (i:Int)else some false
 | 0,c,f+1,hc,_=>by
   rw[F78_l2.eq_2,if_neg (by omega),allB,if_pos rfl]
 | m+1,c,f+1,hc,hf=>by
   have ih:=right_l2 rec12 i hi hl hn m (c+1) f (by omega) (by omega)
   have g2:0≤(c:Int)∧(c:Int)<((lget d.f1 (i:Int)).length:Int):=⟨by omega,by omega⟩
   rw[F78_l2.eq_2,if_pos g2.2,if_pos g2]
   have key:(if lget (lget d.f1 (i:Int)) (c:Int)<(-1:Int)then some true else some (decide ((d.f1.length:Int)≤lget (lget d.f1 (i:Int)) (c:Int))))=some (!entB d (lget d.f1 (i:Int)) c):=by
    unfold entB
    by_cases a:lget (lget d.f1 (i:Int)) (c:Int)<(-1:Int)
    ·rw[if_pos a,decide_eq_false (by omega)];rfl
    ·rw[if_neg a]
     by_cases b:(d.f1.length:Int)≤lget (lget d.f1 (i:Int)) (c:Int)
     ·rw[decide_eq_true b,decide_eq_false (by omega)];rfl
     ·rw[decide_eq_false b,decide_eq_true (by omega)];rfl
   rw[key,Option.bind_some,w64s (by omega) (by omega),allB]
   cases entB d (lget d.f1 (i:Int)) c with
   | false=>rfl
   | true=>rw[if_neg (by decide),Bool.true_and];exact_mod_cast ih
theorem row_key {d:S55} (i:Nat) (hi:i<d.f1.length) (h2:d.f2.length=d.f1.length):(if((lget d.f1 (i:Int)).length:Int)≠kcl d.f0 then some true else if 0≤(i:Int)∧(i:Int)<(d.f2.length:Int)then if lget d.f2 (i:Int)<(-1:Int)then some true else if 0≤(i:Int)∧(i:Int)<(d.f2.length:Int)then some (decide ((32768:Int)≤lget d.f2 (i:Int)))else none else none)=
 some (!decide (((lget d.f1 (i:Int)).length:Int)=kcl d.f0∧ -1≤lget d.f2 (i:Int)∧lget d.f2 (i:Int)<32768)):=by
 have g:0≤(i:Int)∧(i:Int)<(d.f2.length:Int):=⟨by omega,by omega⟩
 rw[if_pos g,if_pos g]
 by_cases a:((lget d.f1 (i:Int)).length:Int)=kcl d.f0
 ·rw[if_neg (by simpa using a)]
  by_cases b:lget d.f2 (i:Int)<(-1:Int)
  ·rw[if_pos b,decide_eq_false (by omega)];rfl
  ·rw[if_neg b]
   by_cases c:(32768:Int)≤lget d.f2 (i:Int)
   ·rw[decide_eq_true c,decide_eq_false (by omega)];rfl
   ·rw[decide_eq_false c,decide_eq_true ⟨a,by omega,by omega⟩];rfl
 ·rw[if_pos a,decide_eq_false (fun q=>a q.1)];rfl
theorem rright_l3 {d:S55} (hv:VB d.f0) (h2:d.f2.length=d.f1.length) (hl:∀ r∈d.f1,r.length≤256) (hn:d.f1.length≤2000):∀ (m i fuel:Nat),i+m=d.f1.length→m<fuel→
 F28_l3 5000 d fuel (i:Int)=some (allB (rowB d) m i)
 | 0,i,f+1,hi,_=>by
   rw[F28_l3.eq_2,if_neg (by omega)];rfl
 | m+1,i,f+1,hi,hf=>by
   have hi':i<d.f1.length:=by omega
   have hr:(lget d.f1 (i:Int)).length≤256:=by rw[lget_lt _ i hi'];exact hl _ (List.getElem_mem hi')
   have ih:=rright_l3 hv h2 hl hn m (i+1) f (by omega) (by omega)
   have e:=rright_l2 (F28_l3 5000 d f) i hi' hr hn (lget d.f1 (i:Int)).length 0 5000 (by omega) (by omega)
   rw[Int.natCast_zero]at e
   rw[F28_l3.eq_2,if_pos (by omega),if_pos ⟨by omega,by omega⟩,classes_eq hv,Option.bind_some,row_key i hi' h2,Option.bind_some,e,allB,rowB]
   cases decide (((lget d.f1 (i:Int)).length:Int)=kcl d.f0∧ -1≤lget d.f2 (i:Int)∧lget d.f2 (i:Int)<32768)with
   | false=>rfl
   | true=>
     rw[if_neg (by decide),Bool.true_and]
     cases allB (entB d (lget d.f1 (i:Int))) (lget d.f1 (i:Int)).length 0 with
     | false=>rfl
     | true=>rw[if_pos rfl,F28_c1,w64s (by omega) (by omega),Bool.true_and];exact_mod_cast ih
theorem right_l3 {d:S55} (h2:d.f2.length=d.f1.length) (hl:∀ r∈d.f1,r.length≤256) (hn:d.f1.length≤2000):∀ (m i fuel:Nat),i+m=d.f1.length→m<fuel→
 F78_l3 5000 d (kcl d.f0) fuel (i:Int)=some (allB (rowB d) m i)
 | 0,i,f+1,hi,_=>by
   rw[F78_l3.eq_2,if_neg (by omega)];rfl
 | m+1,i,f+1,hi,hf=>by
   have hi':i<d.f1.length:=by omega
   have hr:(lget d.f1 (i:Int)).length≤256:=by rw[lget_lt _ i hi'];exact hl _ (List.getElem_mem hi')
   have ih:=right_l3 h2 hl hn m (i+1) f (by omega) (by omega)
   have e:=right_l2 (F78_l3 5000 d (kcl d.f0) f) i hi' hr hn (lget d.f1 (i:Int)).length 0 5000 (by omega) (by omega)
   rw[Int.natCast_zero]at e
   rw[F78_l3.eq_2,if_pos (by omega),if_pos ⟨by omega,by omega⟩,row_key i hi' h2,Option.bind_some,e,allB,rowB]
   cases decide (((lget d.f1 (i:Int)).length:Int)=kcl d.f0∧ -1≤lget d.f2 (i:Int)∧lget d.f2 (i:Int)<32768)with
   | false=>rfl
   | true=>
     rw[if_neg (by decide),Bool.true_and]
     cases allB (entB d (lget d.f1 (i:Int))) (lget d.f1 (i:Int)).length 0 with
     | false=>rfl
     | true=>rw[if_pos rfl,F78_c1,w64s (by omega) (by omega),Bool.true_and];exact_mod_cast ih
theorem rdright_eq {d:S55} (hv:VB d.f0) (hl:∀ r∈d.f1,r.length≤256) (hn:d.f1.length≤2000):F28 5000 d=some (rgB d):=by
 unfold F28 rgB
 by_cases a:(d.f1.length:Int)<1
 ·rw[if_pos a,Option.bind_some,if_pos rfl,decide_eq_false (by omega)];rfl
 rw[if_neg a,if_neg (by omega)]
 by_cases b:(d.f2.length:Int)=(d.f1.length:Int)
 ·rw[if_neg (by simpa using b),rgap_eq hv,Option.bind_some,Option.bind_some,decide_eq_true ⟨by omega,by omega⟩]
  cases gapB d.f0 with
  | false=>rfl
  | true=>
    rw[if_neg (by decide)]
    have:=rright_l3 hv (by omega) hl hn d.f1.length 0 5000 (by omega) (by omega)
    simpa using this
 ·rw[if_pos b,Option.bind_some,if_pos rfl,decide_eq_false (by omega)];rfl
theorem dright_eq {d:S55} (hv:VB d.f0) (hl:∀ r∈d.f1,r.length≤256) (hn:d.f1.length≤2000):F78 5000 d=some (rgB d):=by
 unfold F78 rgB
 by_cases a:(d.f1.length:Int)=0
 ·rw[if_pos a,Option.bind_some,if_pos rfl,decide_eq_false (by omega)];rfl
 rw[if_neg a,if_neg (by omega)]
 by_cases b:(d.f2.length:Int)=(d.f1.length:Int)
 ·rw[decide_eq_false (by simpa using b),Option.bind_some,if_neg (by decide),count_eq hv,Option.bind_some,gap_eq hv,Option.bind_some,decide_eq_true ⟨by omega,by omega⟩]
  cases gapB d.f0 with
  | false=>rfl
  | true=>
    rw[if_neg (by decide)]
    have:=right_l3 (by omega) hl hn d.f1.length 0 5000 (by omega) (by omega)
    simpa using this
 ·rw[decide_eq_true b,Option.bind_some,if_pos rfl,decide_eq_false (by omega)];rfl
structure Dr (d:S55):Prop where
 n1:1≤d.f1.length
 n2:d.f1.length≤2000
 ml:d.f2.length=d.f1.length
 vb:VB d.f0
 gap:∀ c:Nat,(c:Int)<kcl d.f0→∃ b:Nat,b<256∧vget d.f0 (b:Int)=c
 row:∀ r∈d.f1,(r.length:Int)=kcl d.f0
 ent:∀ r∈d.f1,∀ x∈r, -1≤x∧x<(d.f1.length:Int)
 mark:∀ m∈d.f2, -1≤m∧m<32768
theorem lget_mem {α:Type} [Inhabited α] {l:List α} {x:α} (h:x∈l):∃ j:Nat,j<l.length∧lget l (j:Int)=x:=by
 obtain⟨j,hj,rfl⟩:=List.getElem_of_mem h
 exact⟨j,hj,lget_lt l j hj⟩
theorem mem_lget {α:Type} [Inhabited α] {l:List α} {i:Int} (h0:0≤i) (h1:i<(l.length:Int)):lget l i∈l:=by
 have:lget l i=l[i.toNat]'(by omega):=by
  have:=lget_lt l i.toNat (by omega)
  rwa [Int.toNat_of_nonneg h0]at this
 rw[this];exact List.getElem_mem _
theorem rgB_iff {d:S55} (hv:VB d.f0) (hn:d.f1.length≤2000):rgB d=true↔Dr d:=by
 have hk:=kc_rng hv 256
 have hk2:kcl d.f0=kc d.f0 256:=rfl
 simp only[rgB,Bool.and_eq_true,decide_eq_true_eq,gapB,allB_iff,rowB,entB]
 constructor
 ·rintro⟨⟨⟨h1,h2⟩,h3⟩,h4⟩
  refine⟨h1,hn,h2,hv,fun c hc=>(hasB_iff _ c).1 (h3 c (by omega) (by omega)),fun r hr=>?_,fun r hr x hx=>?_,fun m hm=>?_⟩
  ·obtain⟨j,hj,rfl⟩:=lget_mem hr
   exact(h4 j (by omega) (by omega)).1.1
  ·obtain⟨j,hj,rfl⟩:=lget_mem hr
   obtain⟨c,hc,rfl⟩:=lget_mem hx
   exact(h4 j (by omega) (by omega)).2 c (by omega) (by omega)
  ·obtain⟨j,hj,rfl⟩:=lget_mem hm
   exact(h4 j (by omega) (by omega)).1.2
 ·intro h
  refine⟨⟨⟨h.n1,h.ml⟩,fun j _ hj=>(hasB_iff _ j).2 (h.gap j (by omega))⟩,fun j _ hj=>?_⟩
  have hr:lget d.f1 (j:Int)∈d.f1:=mem_lget (by omega) (by omega)
  have hm:=h.ml
  exact⟨⟨h.row _ hr,h.mark _ (mem_lget (by omega) (by omega))⟩,fun c _ hc=>h.ent _ hr _ (mem_lget (by omega) (by omega))⟩
theorem Dr.rg {d:S55} (h:Dr d):rgB d=true:=(rgB_iff h.vb h.n2).2 h
theorem Dr.row256 {d:S55} (h:Dr d):∀ r∈d.f1,r.length≤256:=fun r hr=>by
 have h1:=kc_rng h.vb 256
 have h2:kcl d.f0=kc d.f0 256:=rfl
 have:=h.row r hr
 omega
theorem Dr.right {d:S55} (h:Dr d):F78 5000 d=some true:=by rw[dright_eq h.vb h.row256 h.n2,h.rg]
theorem Dr.rright {d:S55} (h:Dr d):F28 5000 d=some true:=by rw[rdright_eq h.vb h.row256 h.n2,h.rg]
theorem Dr.rowk {d:S55} (h:Dr d) {i:Int} (h0:0≤i) (h1:i<(d.f1.length:Int)):((lget d.f1 i).length:Int)=kcl d.f0:=h.row _ (mem_lget h0 h1)
theorem Dr.entk {d:S55} (h:Dr d) {i c:Int} (h0:0≤i) (h1:i<(d.f1.length:Int)) (c0:0≤c) (c1:c<((lget d.f1 i).length:Int)): -1≤lget (lget d.f1 i) c∧lget (lget d.f1 i) c<(d.f1.length:Int):=h.ent _ (mem_lget h0 h1) _ (mem_lget c0 c1)
theorem nc_ex (kk:Nat→ByteArray):∀ n c:Nat,c<nc kk n→∃ b,b<n∧rc kk b=b∧nc kk b=c
 | 0,c,h=>by rw[nc]at h;omega
 | n+1,c,h=>by
   rw[nc]at h
   by_cases q:c<nc kk n
   ·obtain⟨b,b1,b2⟩:=nc_ex kk n c q
    exact⟨b,by omega,b2⟩
   ·by_cases r:rc kk n=n
    ·rw[if_pos r]at h
     exact⟨n,by omega,r,by omega⟩
    ·rw[if_neg r]at h;omega
theorem mainF_le (n:S121) (bs:List Nat) (B:Nat):∀ (f i:Nat) (R:List (List Bool)) (N:List (List Int)) (R':List (List Bool)) (N':List (List Int)),i≤B→mainF n bs B f i R N=some (R',N')→R'.length≤B
 | 0,_,_,_,_,_,_,h=>by cases h
 | f+1,i,R,N,R',N',hi,h=>by
   rw[mainF]at h
   split at h
   ·next a=>
    split at h
    ·cases h
    ·exact mainF_le n bs B f (i+1) _ _ _ _ (by omega) h
   ·cases h;omega
section
variable {kk:Nat→ByteArray} {v:Vector Int 256} (hv:∀ c:Nat,c<256→vget v (c:Int)=(ck kk c:Int))
include hv
theorem VB_ck:VB v:=by
 intro c
 have e:vget v c=vget v ((c.toNat:Nat):Int):=by unfold vget;rw[Int.toNat_natCast]
 rw[e]
 by_cases h:c.toNat<256
 ·rw[hv _ h]
  have:=ck_le kk c.toNat
  omega
 ·have:vget v ((c.toNat:Nat):Int)=0:=by
   unfold vget
   rw[Int.toNat_natCast,List.getD,List.getElem?_eq_none (by rw[Vector.length_toList];omega)];rfl
  rw[this];omega
theorem kcl_ck:kcl v=(nc kk 256:Int):=by
 have h1:=count_eq (VB_ck hv)
 have h2:=bcount_l kk v hv 256 0 5000 (by omega) (by omega)
 have h2:F101 5000 v=some (nc kk 256:Int):=h2
 rw[h1]at h2;exact Option.some.inj h2
end
theorem mkl_rng {M:List Int} (hM:∀ m∈M,m<32768) (t:List Bool):∀ (m i:Nat) (o:Int), -1≤o→o<32768→ -1≤mkl M t m i o∧mkl M t m i o<32768
 | 0,_,_,h1,h2=>⟨h1,h2⟩
 | m+1,i,o,h1,h2=>by
   rw[mkl]
   have: -1≤mk1 M t i o∧mk1 M t i o<32768:=by
    unfold mk1
    split
    ·next h=>
     have:=hM _ (mem_lget (l:=M) (i:=(i:Int)) (by omega) (by omega))
     omega
    ·exact⟨h1,h2⟩
   exact mkl_rng hM t m (i+1) _ this.1 this.2
theorem sub_Dr {n:S121} {kk:Nat→ByteArray} {v:Vector Int 256} (hv:∀ c:Nat,c<256→vget v (c:Int)=(ck kk c:Int)) {R':List (List Bool)} {N':List (List Int)} (hm:mainF n (RP kk) 2000 5000 0 [F0 n] []=some (R',N')) {M:List Int} (hM:∀ m∈M,m<32768):Dr (S55.mk v N' (R'.map (MK M))):=by
 obtain⟨⟨hT,hT2⟩,hR,_⟩:=mainF_tab n (RP kk) 2000 5000 0 [F0 n] [] R' N' (by simp) ⟨rfl,fun q hq=>by omega⟩ (fun r hr=>by rw[List.mem_singleton.1 hr];exact F0_len n) (by simp;omega) hm
 have hB:=mainF_le n (RP kk) 2000 5000 0 [F0 n] [] R' N' (by omega) hm
 have h0:R'[0]? =some (F0 n):=hR 0 _ rfl
 have hl0:0<R'.length:=(List.getElem?_eq_some_iff.1 h0).1
 have hk:=kcl_ck hv
 have hrl:(RP kk).length=nc kk 256:=by
  have:=rps_len kk 256 0
  unfold RP
  rw[Nat.zero_add,nc]at this
  omega
 have hrow:∀ r∈N',∃ q:Nat,q<R'.length∧∃ s,R'[q]? =some s∧r.length=(RP kk).length∧∀ c:Nat,c<(RP kk).length→∃ t:Int,r[c]? =some t∧(anyb (CL n (MV n s ((RP kk).getD c 0)))=false→t= -1)∧(anyb (CL n (MV n s ((RP kk).getD c 0)))=true→∃ p:Nat,t=(p:Int)∧R'[p]? =some (CL n (MV n s ((RP kk).getD c 0)))):=by
  intro r hr
  obtain⟨q,hq,rfl⟩:=List.getElem_of_mem hr
  obtain⟨s,row,a1,a2,a3,a4⟩:=hT2 q (by omega)
  rw[List.getElem?_eq_getElem hq]at a2
  obtain rfl:=Option.some.inj a2
  exact⟨q,by omega,s,a1,a3,a4⟩
 refine⟨by show 1≤N'.length;omega,by show N'.length≤2000;omega,by show (R'.map (MK M)).length=N'.length;rw[List.length_map];omega,VB_ck hv,fun c hc=>?_,fun r hr=>?_,fun r hr x hx=>?_,fun m hm=>?_⟩
 ·have hc:(c:Int)<kcl v:=hc
  rw[hk]at hc
  obtain⟨b,b1,b2,b3⟩:=nc_ex kk 256 c (by omega)
  refine⟨b,b1,?_⟩
  show vget v (b:Int)=c
  rw[hv b b1]
  unfold ck
  rw[b2,b3]
 ·obtain⟨q,q1,s,q2,q3,q4⟩:=hrow r hr
  show (r.length:Int)=kcl v
  rw[hk,q3,hrl]
 ·obtain⟨q,q1,s,q2,q3,q4⟩:=hrow r hr
  obtain⟨c,hc,rfl⟩:=List.getElem_of_mem hx
  obtain⟨t,t1,t2,t3⟩:=q4 c (by omega)
  rw[List.getElem?_eq_getElem hc]at t1
  obtain rfl:=Option.some.inj t1
  show -1≤r[c]∧r[c]<(N'.length:Int)
  cases e:anyb (CL n (MV n s ((RP kk).getD c 0)))with
  | false=>rw[t2 e];omega
  | true=>
    obtain⟨p,p1,p2⟩:=t3 e
    have:=(List.getElem?_eq_some_iff.1 p2).1
    rw[p1];omega
 ·obtain⟨s,_,rfl⟩:=List.mem_map.1 hm
  exact mkl_rng hM s s.length 0 (-1) (by omega) (by omega)
theorem any_no {t:List Bool} (h:anyb t=false) (q:Int):lget t q=false:=by
 unfold lget
 rw[List.getD]
 cases e:t[q.toNat]? with
 | none=>rfl
 | some b=>
   cases b with
   | false=>rfl
   | true=>
     have:anyb t=true:=by unfold anyb;rw[List.any_eq_true];exact⟨true,List.mem_of_getElem? e,rfl⟩
     rw[h]at this;cases this
theorem no_any {t:List Bool} (h:∀ q:Int,0≤q→lget t q=true→False):anyb t=false:=by
 cases e:anyb t with
 | false=>rfl
 | true=>
   unfold anyb at e
   rw[List.any_eq_true]at e
   obtain⟨b,hb,e⟩:=e
   obtain⟨i,hi,rfl⟩:=List.getElem_of_mem hb
   exact(h (i:Int) (by omega) (by rw[lget_lt _ i hi];exact e)).elim
theorem step_no {n:S121} (h:Rt n) {s:List Bool} (hs:anyb s=false) (b:Nat):anyb (CL n (MV n s b))=false:=by
 refine no_any fun q hq hl=>?_
 obtain⟨p,p0,p1,_⟩:=(CL_iff h (MV_len n s b) hq).1 hl
 obtain⟨e,_,_,_,e3,_⟩:=(MV_iff h s b p0).1 p1
 rw[any_no hs]at e3;cases e3
theorem mv_congr (x:List Bool) (b c:Nat):∀ (l:List S152) (o:List Bool),(∀ e∈l,e.f3=false→tb e.f2 b=tb e.f2 c)→l.foldl (mv1 x b) o=l.foldl (mv1 x c) o
 | [],_,_=>rfl
 | e::l,o,h=>by
   have e1:mv1 x b o e=mv1 x c o e:=by
    unfold mv1
    by_cases k:e.f3=false
    ·rw[h e (by simp) k]
    ·rw[if_neg (fun q=>k q.1),if_neg (fun q=>k q.1)]
   rw[List.foldl_cons,List.foldl_cons,e1]
   exact mv_congr x b c l _ fun e' h'=>h e' (by simp[h'])
theorem MV_class {n:S121} {kk:Nat→ByteArray} (hk:CK n kk) (x:List Bool) {b:Nat} (hb:b<256):MV n x (rc kk b)=MV n x b:=by
 have hs:=rc_spec kk b
 exact mv_congr x _ _ n.f1 _ fun e he h3=>hk.tb (by omega) hb hs.2.1 _ (ss_mem he h3)
theorem MK_no {M:List Int} {t:List Bool} (h:anyb t=false):MK M t= -1:=by
 have:∀ (m i:Nat),mkl M t m i (-1)= -1:=by
  intro m
  induction m with
  | zero=>intro i;rfl
  | succ m ih=>
    intro i
    have e:mk1 M t i (-1)= -1:=by unfold mk1;rw[if_neg (by rintro⟨q,_⟩;rw[any_no h]at q;cases q)]
    rw[mkl,e];exact ih (i+1)
 exact this _ _
def AtS (R:List (List Bool)) (S:List Bool) (x:Int):Prop:=(∃ p:Nat,x=(p:Int)∧R[p]? =some S)∨(x= -1∧anyb S=false)
theorem at_step {n:S121} (h:Rt n) {kk:Nat→ByteArray} (hk:CK n kk) {v:Vector Int 256} (hv:∀ c:Nat,c<256→vget v (c:Int)=(ck kk c:Int)) {N:List (List Int)} {R:List (List Bool)} {K:List Int} (ht:Tab n (RP kk) R R.length N) {S:List Bool} {x:Int} (hx:AtS R S x) {b:Nat} (hb:b<256):AtS R (CL n (MV n S b)) (stp (S55.mk v N K) x (b:Int)):=by
 rcases hx with⟨p,rfl,hp⟩|⟨rfl,hp⟩
 ·obtain⟨g1,g2⟩:=List.getElem?_eq_some_iff.1 hp
  have hg:=RP_get kk hb
  obtain⟨k1,k2⟩:=List.getElem?_eq_some_iff.1 hg
  obtain⟨st,row,r1,r2,r3,r4⟩:=ht.2 p g1
  rw[hp]at r1
  obtain rfl:S=st:=Option.some.inj r1
  obtain⟨t,t1,t2,t3⟩:=r4 (ck kk b) k1
  have egd:(RP kk).getD (ck kk b) 0=rc kk b:=by rw[List.getD,hg];rfl
  rw[egd,MV_class hk _ hb]at t2 t3
  obtain⟨n1,n2⟩:=List.getElem?_eq_some_iff.1 r2
  obtain⟨m1,m2⟩:=List.getElem?_eq_some_iff.1 t1
  have eN:lget N (p:Int)=row:=by rw[lget_lt _ p n1];exact n2
  have et:lget row ((ck kk b:Nat):Int)=t:=by rw[lget_lt _ _ m1];exact m2
  have es:stp (S55.mk v N K) (p:Int) (b:Int)=t:=by
   show (if(p:Int)<0∨(N.length:Int)≤(p:Int)∨((lget N (p:Int)).length:Int)≤vget v (b:Int)then -1 else lget (lget N (p:Int)) (vget v (b:Int)))=t
   rw[hv b hb,eN,if_neg (by omega),et]
  rw[es]
  cases e:anyb (CL n (MV n S b))with
  | false=>exact .inr ⟨t2 e,e⟩
  | true=>exact .inl (t3 e)
 ·rw[stp_neg]
  exact .inr ⟨rfl,step_no h hp b⟩
def rnS (d:S55) (x:Int) (w:List Nat):Int:=w.foldl (fun (x:Int) (b:Nat)=>stp d x (b:Int)) x
theorem at_run {n:S121} (h:Rt n) {kk:Nat→ByteArray} (hk:CK n kk) {v:Vector Int 256} (hv:∀ c:Nat,c<256→vget v (c:Int)=(ck kk c:Int)) {N:List (List Int)} {R:List (List Bool)} {K:List Int} (ht:Tab n (RP kk) R R.length N):∀ (w:List Nat) (S:List Bool) (x:Int),(∀ b∈w,b<256)→AtS R S x→AtS R (fS n S w) (rnS (S55.mk v N K) x w)
 | [],S,x,_,hx=>hx
 | b::w,S,x,hw,hx=>at_run h hk hv ht w _ _ (fun c hc=>hw c (by simp[hc])) (at_step h hk hv ht hx (hw b (by simp)))
theorem at_mark {R:List (List Bool)} {S:List Bool} {x:Int} (hx:AtS R S x) (v:Vector Int 256) (N:List (List Int)) (M:List Int):mk (S55.mk v N (R.map (MK M))) x=MK M S:=by
 rcases hx with⟨p,rfl,hp⟩|⟨rfl,hp⟩
 ·obtain⟨g1,g2⟩:=List.getElem?_eq_some_iff.1 hp
  have e1:(R.map (MK M))[p]? =some (MK M S):=by rw[List.getElem?_map,hp];rfl
  show (if(p:Int)<0∨((R.map (MK M)).length:Int)≤(p:Int)then -1 else lget (R.map (MK M)) (p:Int))=_
  rw[if_neg (by rw[List.length_map];omega)]
  exact(lget_some e1).1
 ·rw[mk_neg,MK_no hp]
theorem one_lang {t:Rx} (ht:ROK t) (hz:(ser t).length≤200):∃ d e,F77 5000 (gN t)=some (d,e)∧((e=6∧d.f1=[])∨e=0∧Dr d∧∀ w:List Nat,(∀ b∈w,b<256)→(Lx t w→mk d (rnS d 0 w)=0)∧(¬ Lx t w→mk d (rnS d 0 w)= -1)):=by
 have h:=gN_rt ht hz
 have lang:=fS_lang ht hz
 generalize hn0:gN t=n at h lang
 have hla:n.f3=gO t 0:=by rw[←hn0];rfl
 obtain⟨kk,hk⟩:=CK_ex n h.n2 h.u
 have hf:=h.first
 have hl:=h.last
 have hn:=h.nn
 have h1:=h.n1
 have hN:NN n≤1000:=by omega
 obtain⟨y,y1,y3,y2⟩:=fill_eq n hN (by omega) (NN n) 0 5000 (List.replicate (NN n) 0) (by omega) (by omega) (by simp) (fun q hq=>by omega)
 have y2:F77_l1 5000 n 5000 (List.replicate (NN n) 0) (0:Int)=F77_c0 5000 n y:=y2
 obtain⟨v,v1,v2⟩:=sof_eq h hk (lset y n.f3 0)
 have top:∀ d e,F76 5000 n (lset y n.f3 0)=some (d,e)→F77 5000 n=some (d,e):=by
  intro d e he
  unfold F77
  rw[right_eq n h.n2,Option.bind_some,h.rt,if_neg (by decide),if_pos ⟨by omega,by omega,by omega⟩,show n.f0.toNat=NN n from rfl,y2]
  unfold F77_c0
  rw[if_pos ⟨by omega,by omega⟩,he,Option.bind_some]
 rw[v2]at top
 cases hm:mainF n (RP kk) 2000 5000 0 [F0 n] []with
 | none=>rw[hm]at top;exact⟨_,_,top _ _ rfl,.inl ⟨rfl,rfl⟩⟩
 | some x=>
   obtain⟨R',N'⟩:=x
   rw[hm]at top
   refine⟨_,_,top _ _ rfl,.inr ⟨rfl,sub_Dr v1 hm (fun m hm=>?_),fun w hw=>?_⟩⟩
   ·obtain⟨j,hj,rfl⟩:=lget_mem hm
    rw[lset_len]at hj
    rw[show n.f3=((n.f3.toNat:Nat):Int)by omega,lget_lsetI _ _ _ _ (by omega)]
    split
    ·omega
    ·rw[y3 j (by omega)];omega
   obtain⟨hT,hR,_⟩:=mainF_tab n (RP kk) 2000 5000 0 [F0 n] [] R' N' (by simp) ⟨rfl,fun q hq=>by omega⟩ (fun r hr=>by rw[List.mem_singleton.1 hr];exact F0_len n) (by simp;omega) hm
   have h0:AtS R' (F0 n) 0:=.inl ⟨0,rfl,hR 0 _ rfl⟩
   have hFl:=fS_len (F0_len n) w
   have e3:n.f3=((n.f3.toNat:Nat):Int):=by omega
   have:=mkl_one (M:=lset y n.f3 0) (t:=fS n (F0 n) w) (la:=n.f3.toNat) (by rw[lset_len,y1,hFl]) (by omega) (fun q hq=>by
    rw[e3,lget_lsetI _ _ _ _ (by omega),Int.toNat_natCast]
    by_cases c:q=n.f3.toNat
    ·rw[if_pos c,if_pos c]
    ·rw[if_neg c,if_neg c];exact y3 q (by omega)) (fS n (F0 n) w).length 0 (-1) (by omega) (.inl rfl)
   rw[at_mark (at_run h hk v1 hT w (F0 n) 0 hw h0)]
   unfold MK
   rw[this, ←e3,hla, ←lang w]
   exact⟨fun c=>if_pos (.inr ⟨by omega,c⟩),fun c=>if_neg (by rintro (f|f);omega;exact c f.2)⟩
theorem nc_rep {kk:Nat→ByteArray} {r:Nat} (h:rc kk r=r) {b:Nat} (hb:r<b):nc kk r<nc kk b:=by
 have h1:nc kk (r+1)=nc kk r+1:=by rw[nc,if_pos h]
 have h2:=nc_mono kk (show r+1≤b by omega)
 omega
theorem ck_iff {kk:Nat→ByteArray} {i j:Nat}:ck kk i=ck kk j↔kk i=kk j:=by
 constructor
 ·intro h
  unfold ck at h
  have hi:=rc_rc kk i
  have hj:=rc_rc kk j
  have e:rc kk i=rc kk j:=by
   rcases Nat.lt_trichotomy (rc kk i) (rc kk j)with k|k|k
   ·have:=nc_rep hi k;omega
   ·exact k
   ·have:=nc_rep hj k;omega
  rw[←(rc_spec kk i).2.1,e,(rc_spec kk j).2.1]
 ·intro h;exact ck_same kk h
theorem ck_lt {kk:Nat→ByteArray} {i N:Nat} (h:i<N):ck kk i<nc kk N:=by
 unfold ck
 exact nc_rep (rc_rc kk i) (by have:=(rc_spec kk i).1;omega)
theorem rep_of {kk kk':Nat→ByteArray} (h:∀ i j,kk' i=kk' j→kk i=kk j) {r:Nat} (hr:rc kk r=r):rc kk' r=r:=by
 refine rc_uniq kk' rfl fun c hc e=>?_
 have:=(rc_spec kk r).2.2 c (by rw[hr];exact hc)
 exact this (h c r e)
theorem nc_fine {kk kk':Nat→ByteArray} (h:∀ i j,kk' i=kk' j→kk i=kk j):∀ b,nc kk b≤nc kk' b
 | 0=>Nat.le_refl _
 | b+1=>by
   have ih:=nc_fine h b
   rw[nc,nc]
   by_cases q:rc kk b=b
   ·rw[if_pos q,if_pos (rep_of h q)];omega
   ·rw[if_neg q];omega
theorem nc_same {kk kk':Nat→ByteArray} (h:∀ i j,kk' i=kk' j→kk i=kk j):∀ (m b:Nat),nc kk (b+m)=nc kk' (b+m)→nc kk b=nc kk' b
 | 0,_,e=>e
 | m+1,b,e=>by
   have h1:nc kk (b+m)=nc kk' (b+m):=by
    have h2:=nc_fine h (b+m)
    have e':nc kk (b+m+1)=nc kk' (b+m+1):=e
    rw[nc,nc]at e'
    by_cases q:rc kk (b+m)=b+m
    ·rw[if_pos q,if_pos (rep_of h q)]at e';omega
    ·rw[if_neg q]at e'
     split at e'<;>omega
   exact nc_same h m b h1
theorem rep_back {kk kk':Nat→ByteArray} (h:∀ i j,kk' i=kk' j→kk i=kk j) {N:Nat} (e:nc kk N=nc kk' N) {r:Nat} (hN:r<N) (hr:rc kk' r=r):rc kk r=r:=by
 have e1:=nc_same h (N-r) r (by rw[show r+(N-r)=N by omega];exact e)
 have e2:=nc_same h (N - (r+1)) (r+1) (by rw[show r+1+(N - (r+1))=N by omega];exact e)
 rw[nc,nc,if_pos hr]at e2
 by_cases q:rc kk r=r
 ·exact q
 ·rw[if_neg q]at e2;omega
theorem fine_same {kk kk':Nat→ByteArray} (h:∀ i j,kk' i=kk' j→kk i=kk j) {N:Nat} (e:nc kk N=nc kk' N) {i j:Nat} (hi:i<N) (hj:j<N) (k:kk i=kk j):kk' i=kk' j:=by
 have si:=rc_spec kk' i
 have sj:=rc_spec kk' j
 have ri:=rep_back h e (show rc kk' i<N by omega) (rc_rc kk' i)
 have rj:=rep_back h e (show rc kk' j<N by omega) (rc_rc kk' j)
 have k1:kk (rc kk' i)=kk (rc kk' j):=by rw[h _ _ si.2.1,h _ _ sj.2.1,k]
 have:=rc_same kk k1
 rw[ri,rj]at this
 rw[←si.2.1,this,sj.2.1]
abbrev rw' (d:S55) (p:Int):List Int:=lget d.f1 p
inductive DR (d:S55) (s:Int):Int→Prop
 | refl:DR d s s
 | step {p:Int} {c:Nat}:DR d s p→(c:Int)<((rw' d p).length:Int)→0≤lget (rw' d p) (c:Int)→DR d s (lget (rw' d p) (c:Int))
theorem DR.in {d:S55} (h:Dr d) {s q:Int} (hs:0≤s∧s<(d.f1.length:Int)) (k:DR d s q):0≤q∧q<(d.f1.length:Int):=by
 induction k with
 | refl=>exact hs
 | step _ hc h0 ih=>exact⟨h0,(h.entk ih.1 ih.2 (by omega) hc).2⟩
theorem DR.trans {d:S55} {s p q:Int} (h:DR d s p) (k:DR d p q):DR d s q:=by
 induction k with
 | refl=>exact h
 | step _ hc h0 ih=>exact .step ih hc h0
theorem LE.set {x:List Bool} {i:Int} (h0:0≤i) (h1:i<(x.length:Int)):LE x (lset x i true):=fun q hq h=>by
 rw[lget_lsetB x i q true h0 h1 hq]
 split
 ·rfl
 ·exact h
def ps1 (s:List Bool×List Int) (q:Int):List Bool×List Int:=if 0≤q∧lget s.1 q=false then(lset s.1 q true,s.2++[q])else s
def ps (l:List Int) (s:List Bool×List Int):List Bool×List Int:=l.foldl ps1 s
theorem cnt_le_len {x:List Bool} {n:Nat} (h:x.length=n):cnt x≤n:=h▸cnt_le x
def sL (l:List Int) (x:List Bool):List Bool:=l.foldl (fun x q=>if 0≤q then lset x q true else x) x
def rp (d:S55) (i:Nat) (x:List Bool):List Bool:=if lget x (i:Int)=true then sL (rw' d i) x else x
theorem row_lt {d:S55} (h:Dr d) {p:Int} (h0:0≤p) (h1:p<(d.f1.length:Int)):∀ q∈rw' d p,q<(d.f1.length:Int):=fun q hq=>(h.ent _ (mem_lget h0 h1) q hq).2
def AL (d:S55) (i:Int):Prop:=∃ q,DR d i q∧0≤mk d q
def AS (d:S55) (A:List Bool):Prop:=A.length=d.f1.length∧∀ q,0≤q→q<(d.f1.length:Int)→(lget A q=true↔AL d q)
def hit (d:S55) (x:List Bool) (r:List Int):Bool:=r.any fun q=>decide (0≤q)&&lget x q
def ap (d:S55) (i:Nat) (s:List Bool×Bool):List Bool×Bool:=if lget s.1 (i:Int)=true then s else if hit d s.1 (rw' d i)=true then(lset s.1 (i:Int) true,true)else s
def aps (d:S55):Nat→Nat→List Bool×Bool→List Bool×Bool
 | 0,_,s=>s
 | m+1,i,s=>aps d m (i+1) (ap d i s)
theorem ap_len (d:S55) (i:Nat) (s:List Bool×Bool):(ap d i s).1.length=s.1.length:=by
 unfold ap;split
 ·rfl
 ·split
  ·exact lset_len _ _ _
  ·rfl
theorem aps_len (d:S55):∀ (m i:Nat) (s:List Bool×Bool),(aps d m i s).1.length=s.1.length
 | 0,_,_=>rfl
 | m+1,i,s=>by rw[aps,aps_len d m,ap_len]
theorem ap_cnt {d:S55} {i:Nat} (hi:i<d.f1.length) {s:List Bool×Bool} (hs:s.1.length=d.f1.length):ap d i s=s∨((ap d i s).2=true∧cnt (ap d i s).1=cnt s.1+1):=by
 unfold ap
 split
 ·exact .inl rfl
 ·rename_i a
  split
  ·refine .inr ⟨rfl,?_⟩
   have hi':i<s.1.length:=by omega
   refine cnt_set s.1 i hi' ?_
   have:lget s.1 (i:Int)=false:=by simpa using a
   rw[lget_lt _ i hi']at this
   rw[List.getElem?_eq_getElem hi',this]
  ·exact .inl rfl
theorem aps_cnt {d:S55}:∀ (m i:Nat) (s:List Bool×Bool),i+m=d.f1.length→s.1.length=d.f1.length→aps d m i s=s∨((aps d m i s).2=true∧cnt s.1<cnt (aps d m i s).1)
 | 0,_,_,_,_=>.inl rfl
 | m+1,i,s,hi,hs=>by
   rw[aps]
   have ih:=aps_cnt (d:=d) m (i+1) (ap d i s) (by omega) (by rw[ap_len];exact hs)
   rcases ap_cnt (d:=d) (i:=i) (by omega) hs with q|⟨q1,q2⟩
   ·rw[q]at ih⊢;exact ih
   ·rcases ih with r|⟨r1,r2⟩
    ·rw[r];exact .inr ⟨q1,by omega⟩
    ·exact .inr ⟨r1,by omega⟩
theorem aps_flag (d:S55):∀ (m i:Nat) (s:List Bool×Bool),s.2=true→(aps d m i s).2=true
 | 0,_,_,h=>h
 | m+1,i,s,h=>by
   rw[aps]
   refine aps_flag d m (i+1) _ ?_
   unfold ap;split
   ·exact h
   ·split
    ·rfl
    ·exact h
theorem aps_closed (d:S55):∀ (m i:Nat) (x:List Bool),(aps d m i (x,false)).2=false→(aps d m i (x,false)).1=x∧∀ j:Nat,i≤j→j<i+m→hit d x (rw' d j)=true→lget x (j:Int)=true
 | 0,i,x,_=>⟨rfl,fun j h1 h2=>by omega⟩
 | m+1,i,x,h=>by
   rw[aps]at h⊢
   have hs:ap d i (x,false)=(x,false)∧(hit d x (rw' d i)=true→lget x (i:Int)=true):=by
    by_cases c:lget x (i:Int)=true
    ·exact⟨by unfold ap;rw[if_pos c],fun _=>c⟩
    ·by_cases e:hit d x (rw' d i)=true
     ·have hf:(ap d i (x,false)).2=true:=by unfold ap;rw[if_neg c,if_pos e]
      rw[aps_flag d m (i+1) _ hf]at h;cases h
     ·exact⟨by unfold ap;rw[if_neg c,if_neg e],fun q=>absurd q e⟩
   rw[hs.1]at h⊢
   obtain⟨k1,k2⟩:=aps_closed d m (i+1) x h
   refine⟨k1,fun j h1 h2 h3=>?_⟩
   by_cases e:j=i
   ·subst e;exact hs.2 h3
   ·exact k2 j (by omega) (by omega) h3
theorem hit_iff {d:S55} (h:Dr d) {x:List Bool} {i:Nat} (hi:i<d.f1.length):hit d x (rw' d i)=true↔∃ c:Nat,(c:Int)<((rw' d i).length:Int)∧0≤lget (rw' d i) (c:Int)∧lget x (lget (rw' d i) (c:Int))=true:=by
 unfold hit
 rw[List.any_eq_true]
 constructor
 ·rintro⟨q,hq,hh⟩
  simp only[Bool.and_eq_true,decide_eq_true_eq]at hh
  obtain⟨c,hc,rfl⟩:=lget_mem hq
  exact⟨c,by omega,hh.1,hh.2⟩
 ·rintro⟨c,hc,h0,hg⟩
  exact⟨_,mem_lget (by omega) hc,by simp[h0,hg]⟩
theorem ap_snd {d:S55} (h:Dr d) {i:Nat} (hi:i<d.f1.length) {s:List Bool×Bool} (hs:s.1.length=d.f1.length) (hq:∀ q,0≤q→lget s.1 q=true→AL d q):∀ q,0≤q→lget (ap d i s).1 q=true→AL d q:=by
 intro q h0 hg
 unfold ap at hg
 split at hg
 ·exact hq q h0 hg
 ·split at hg
  ·rename_i c
   have hg':lget (lset s.1 (i:Int) true) q=true:=hg
   rw[lget_lsetB s.1 i q true (by omega) (by omega) h0]at hg'
   by_cases e:q=(i:Int)
   ·subst e
    obtain⟨c,hc,k0,kg⟩:=(hit_iff h hi).1 c
    obtain⟨r,r1,r2⟩:=hq _ k0 kg
    exact⟨r,(DR.step .refl hc k0).trans r1,r2⟩
   ·rw[if_neg e]at hg';exact hq q h0 hg'
  ·exact hq q h0 hg
theorem aps_snd {d:S55} (h:Dr d):∀ (m i:Nat) (s:List Bool×Bool),i+m=d.f1.length→s.1.length=d.f1.length→(∀ q,0≤q→lget s.1 q=true→AL d q)→∀ q,0≤q→lget (aps d m i s).1 q=true→AL d q
 | 0,_,_,_,_,hq=>hq
 | m+1,i,s,hi,hs,hq=>by
   rw[aps]
   exact aps_snd h m (i+1) _ (by omega) (by rw[ap_len];exact hs) (ap_snd h (by omega) hs hq)
theorem aps_le {d:S55}:∀ (m i:Nat) (s:List Bool×Bool),i+m=d.f1.length→s.1.length=d.f1.length→LE s.1 (aps d m i s).1
 | 0,_,s,_,_=>LE.refl _
 | m+1,i,s,hi,hs=>by
   rw[aps]
   refine LE.trans ?_ (aps_le m (i+1) _ (by omega) (by rw[ap_len];exact hs))
   unfold ap;split
   ·exact LE.refl _
   ·split
    ·exact LE.set (by omega) (by omega)
    ·exact LE.refl _
theorem alive_l2 {d:S55} (h:Dr d) (rec15:List Bool→Bool→Int→Option (List Bool)) (x:List Bool) (b:Bool) (i:Nat) (hi:i<d.f1.length) (hx:x.length=d.f1.length):∀ (m c fuel:Nat),c+m=(rw' d i).length→m<fuel→
 F103_l2 5000 rec15 d x b (i:Int) fuel (c:Int)=if hit d x ((rw' d i).drop c)=true then F103_c1 5000 rec15 (i:Int) (lset x (i:Int) true) true else F103_c1 5000 rec15 (i:Int) x b
 | 0,c,f+1,hc,_=>by
   have hcn:¬ (c:Int)<((lget d.f1 (i:Int)).length:Int):=by
    have:¬ (c:Int)<((rw' d i).length:Int):=by omega
    exact this
   rw[F103_l2.eq_2,if_neg hcn,List.drop_of_length_le (by omega)];rfl
 | m+1,c,f+1,hc,hf=>by
   have hc':c<(rw' d i).length:=by omega
   have hcI:(c:Int)<((lget d.f1 (i:Int)).length:Int):=by
    have:(c:Int)<((rw' d i).length:Int):=by omega
    exact this
   have he:=h.entk (i:=(i:Int)) (by omega) (by omega) (c:=(c:Int)) (by omega) hcI
   have h256:(rw' d i).length≤256:=h.row256 _ (mem_lget (l:=d.f1) (i:=(i:Int)) (by omega) (by omega))
   have ge:lget (lget d.f1 (i:Int)) (c:Int)=(rw' d i)[c]:=lget_lt (rw' d i) c hc'
   have ih:=alive_l2 h rec15 x b i hi hx m (c+1) f (by omega) (by omega)
   rw[F103_l2.eq_2,if_pos hcI,if_pos ⟨by omega,hcI⟩,List.drop_eq_getElem_cons hc']
   show _=if((decide (0≤(rw' d i)[c])&&lget x (rw' d i)[c])||hit d x ((rw' d i).drop (c+1)))=true then _ else _
   rw[←ge]
   generalize lget (lget d.f1 (i:Int)) (c:Int)=q at he
   by_cases a:0≤q
   ·rw[if_pos a,if_pos (by omega),if_pos ⟨a,by omega⟩,Option.bind_some,decide_eq_true a,Bool.true_and]
    cases lget x q with
    | true=>rw[if_pos rfl,if_pos ⟨by omega,by omega⟩,Bool.true_or,if_pos rfl]
    | false=>
      rw[if_neg (by decide),Bool.false_or,w64s (by omega) (by omega)]
      exact_mod_cast ih
   ·rw[if_neg a,Option.bind_some,if_neg (by decide),decide_eq_false a,Bool.false_and,Bool.false_or,w64s (by omega) (by omega)]
    exact_mod_cast ih
theorem alive_l3 {d:S55} (h:Dr d) (rec9:List Bool→Bool→Option (List Bool)):∀ (m i fuel:Nat) (x:List Bool) (b:Bool),i+m=d.f1.length→m<fuel→x.length=d.f1.length→
 F103_l3 5000 rec9 d fuel x b (i:Int)=rec9 (aps d m i (x,b)).1 (aps d m i (x,b)).2
 | 0,i,f+1,x,b,hi,_,hx=>by
   rw[F103_l3.eq_2,if_neg (by omega)];rfl
 | m+1,i,f+1,x,b,hi,hf,hx=>by
   have hn:=h.n2
   have h256:(rw' d i).length≤256:=h.row256 _ (mem_lget (l:=d.f1) (i:=(i:Int)) (by omega) (by omega))
   have ih:=fun y b hy=>alive_l3 h rec9 m (i+1) f y b (by omega) (by omega) hy
   rw[F103_l3.eq_2,if_pos (by omega),if_pos ⟨by omega,by omega⟩,if_pos ⟨by omega,by omega⟩,aps]
   unfold ap
   by_cases a:lget x (i:Int)=true
   ·rw[if_pos a,if_pos a,F103_c1,w64s (by omega) (by omega)]
    exact_mod_cast ih x b hx
   ·have e:=alive_l2 h (F103_l3 5000 rec9 d f) x b i (by omega) hx (rw' d i).length 0 5000 (by omega) (by omega)
    rw[Int.natCast_zero,List.drop_zero]at e
    rw[if_neg a,if_neg a,e]
    by_cases c:hit d x (rw' d i)=true
    ·rw[if_pos c,if_pos c,F103_c1,w64s (by omega) (by omega)]
     exact_mod_cast ih _ true (by rw[lset_len];exact hx)
    ·rw[if_neg c,if_neg c,F103_c1,w64s (by omega) (by omega)]
     exact_mod_cast ih x b hx
theorem alive_l4 {d:S55} (h:Dr d):∀ (m:Nat) (x:List Bool),x.length=d.f1.length→d.f1.length-cnt x+1<m→(∀ q,0≤q→lget x q=true→AL d q)→
 ∃ A,F103_l4 5000 d m x true=some A∧A.length=d.f1.length∧LE x A∧(∀ q,0≤q→lget A q=true→AL d q)∧∀ j:Nat,j<d.f1.length→hit d A (rw' d j)=true→lget A (j:Int)=true
 | m+1,x,hx,hm,hq=>by
   have hn:=h.n2
   rw[F103_l4.eq_2,if_pos rfl]
   have e:=alive_l3 h (F103_l4 5000 d m) d.f1.length 0 5000 x false (by omega) (by omega) hx
   rw[Int.natCast_zero]at e
   rw[e]
   have hp:(aps d d.f1.length 0 (x,false)).1.length=x.length:=aps_len d _ _ (x,false)
   have hle:LE x (aps d d.f1.length 0 (x,false)).1:=aps_le d.f1.length 0 (x,false) (by omega) hx
   have hsn:=aps_snd h d.f1.length 0 (x,false) (by omega) hx hq
   by_cases q:(aps d d.f1.length 0 (x,false)).2=true
   ·rw[q]
    rcases aps_cnt (d:=d) d.f1.length 0 (x,false) (by omega) hx with r|⟨_,r⟩
    ·rw[r]at q;cases q
    ·have r':cnt x<cnt (aps d d.f1.length 0 (x,false)).1:=r
     have hc:=cnt_le_len (hp.trans hx)
     obtain⟨A,a1,a2,a3,a4,a5⟩:=alive_l4 h m _ (hp.trans hx) (by omega) hsn
     exact⟨A,a1,a2,hle.trans a3,a4,a5⟩
   ·have q':(aps d d.f1.length 0 (x,false)).2=false:=by simpa using q
    obtain⟨k1,k2⟩:=aps_closed d d.f1.length 0 x q'
    rw[q',k1]
    cases m with
    | zero=>omega
    | succ m=>
      rw[F103_l4.eq_2,if_neg (by decide),F103_c0]
      exact⟨x,rfl,hx,LE.refl x,hq,fun j hj hh=>k2 j (by omega) (by omega) hh⟩
theorem alive_l6 {d:S55} (h:Dr d):∀ (m i fuel:Nat) (x:List Bool),i+m=d.f1.length→m<fuel→x.length=d.f1.length→(∀ j:Nat,j<i→lget x (j:Int)=decide (0≤mk d j))→
 ∃ y:List Bool,F103_l6 5000 d fuel x (i:Int)=F103_c5 5000 d y∧y.length=d.f1.length∧∀ j:Nat,j<d.f1.length→lget y (j:Int)=decide (0≤mk d j)
 | 0,i,f+1,x,hi,_,hx,hq=>by
   rw[F103_l6.eq_2,if_neg (by simp;omega)]
   exact⟨x,rfl,hx,fun j hj=>hq j (by omega)⟩
 | m+1,i,f+1,x,hi,hf,hx,hq=>by
   have hn:=h.n2
   rw[F103_l6.eq_2,if_pos (by simp;omega),mark_eq,Option.bind_some,if_pos ⟨by omega,by omega⟩,w64s (by omega) (by omega)]
   have ih:=alive_l6 h m (i+1) f (lset x (i:Int) (decide (0≤mk d i))) (by omega) (by omega) (by rw[lset_len];exact hx) (fun j hj=>by
    rw[lget_lsetB x i j _ (by omega) (by omega) (by omega)]
    by_cases e:(j:Int)=(i:Int)
    ·rw[if_pos e,e]
    ·rw[if_neg e];exact hq j (by omega))
   exact_mod_cast ih
theorem alive_eq {d:S55} (h:Dr d):∃ A,F103 5000 d=some A∧AS d A:=by
 have hn:=h.n2
 unfold F103
 rw[if_pos ⟨by omega,by omega,by omega⟩]
 obtain⟨y,y1,y2,y3⟩:=alive_l6 h d.f1.length 0 5000 (List.replicate (d.f1.length:Int).toNat false) (by omega) (by omega) (by simp) (fun j hj=>by omega)
 rw[Int.natCast_zero]at y1
 have y4:∀ q,0≤q→lget y q=true→AL d q:=fun q h0 hg=>by
  obtain⟨j,rfl⟩:=Int.eq_ofNat_of_zero_le h0
  by_cases hj:j<d.f1.length
  ·rw[y3 j hj]at hg
   exact⟨_,.refl,of_decide_eq_true hg⟩
  ·have:lget y (j:Int)=false:=by
    unfold lget;rw[List.getD,List.getElem?_eq_none (by omega)];rfl
   rw[this]at hg;cases hg
 obtain⟨A,a1,a2,a3,a4,a5⟩:=alive_l4 h 5000 y y2 (by omega) y4
 refine⟨A,by rw[y1];exact a1,a2,fun q h0 h1=>⟨a4 q h0,?_⟩⟩
 rintro⟨r,k,hr⟩
 have key:∀ s r,DR d s r→0≤s→s<(d.f1.length:Int)→lget A r=true→lget A s=true:=by
  intro s r k
  induction k with
  | refl=>exact fun _ _ hg=>hg
  | @step p c k hc k0 ih=>
    intro h0 h1 hg
    have hp:=k.in h ⟨h0,h1⟩
    obtain⟨j,rfl⟩:=Int.eq_ofNat_of_zero_le hp.1
    exact ih h0 h1 (a5 j (by omega) ((hit_iff h (by omega)).2 ⟨c,hc,k0,hg⟩))
 refine key q r k h0 h1 ?_
 have hrr:=k.in h ⟨h0,h1⟩
 obtain⟨j,rfl⟩:=Int.eq_ofNat_of_zero_le hrr.1
 exact a3 _ (by omega) (by rw[y3 j (by omega)];exact decide_eq_true hr)
theorem mk_in {d:S55} (h:Dr d) {i:Int} (h0:0≤i) (h1:i<(d.f1.length:Int)):mk d i=lget d.f2 i:=by
 have:=h.ml
 unfold mk;rw[if_neg (by omega)]
def tr (a:List Bool) (x:Int):Int:=if 0≤x∧lget a x=false then -1 else x
def TRM (d:S55) (a:List Bool):S55:=S55.mk d.f0 (d.f1.map fun r=>r.map (tr a)) d.f2
theorem iget_lt (l:List Int) (i:Nat) (h:i<l.length):lget l (i:Int)=l[i]:=lget_lt l i h
theorem trim_l4 {d:S55} (rec12:List (List Int)→Int→Option S55) (a:List Bool) (acc:List (List Int)) (x11:Int) (t18:List Int) (ht:∀ q∈t18,q<(a.length:Int)) (hz:t18.length≤2000):∀ (m c fuel:Nat),c+m=t18.length→m<fuel→
 F80_l4 5000 rec12 a acc x11 t18 fuel ((t18.take c).map (tr a)++t18.drop c) (c:Int)=F80_c2 5000 rec12 acc x11 (t18.map (tr a))
 | 0,c,f+1,hc,_=>by
   rw[F80_l4.eq_2,if_neg (by omega),List.take_of_length_le (by omega),List.drop_of_length_le (by omega),List.append_nil]
 | m+1,c,f+1,hc,hf=>by
   have hc':c<t18.length:=by omega
   have hq:=ht _ (List.getElem_mem hc')
   have hlen:((t18.take c).map (tr a)++t18.drop c).length=t18.length:=by simp;omega
   have hget:lget ((t18.take c).map (tr a)++t18.drop c) (c:Int)=t18[c]:=by
    rw[iget_lt _ c (by omega),List.getElem_append_right (by simp;omega)]
    simp[show c-min c t18.length=0 by omega]
   have hset:∀ v,lset ((t18.take c).map (tr a)++t18.drop c) (c:Int) v=(t18.take c).map (tr a)++(v::t18.drop (c+1)):=fun v=>by
    unfold lset
    rw[Int.toNat_natCast,List.set_append_right _ _ (by simp;omega),show c - ((t18.take c).map (tr a)).length=0 by simp;omega,List.drop_eq_getElem_cons hc',List.set_cons_zero]
   have ih:=trim_l4 (d:=d) rec12 a acc x11 t18 ht hz m (c+1) f (by omega) (by omega)
   have hnext:(t18.take (c+1)).map (tr a)++t18.drop (c+1)=(t18.take c).map (tr a)++(tr a t18[c]::t18.drop (c+1)):=by
    rw[←List.take_append_getElem hc',List.map_append,List.append_assoc];rfl
   rw[hnext]at ih
   have g:0≤(c:Int)∧(c:Int)<(((t18.take c).map (tr a)++t18.drop c).length:Int):=⟨by omega,by omega⟩
   rw[F80_l4.eq_2,if_pos (by omega),if_pos g,hget,if_pos g]
   unfold tr at ih
   by_cases b:0≤t18[c]
   ·rw[if_pos b,if_pos hq,if_pos ⟨b,hq⟩,Option.bind_some]
    cases e:lget a t18[c]with
    | false=>
      rw[if_pos ⟨b,e⟩]at ih
      rw[if_pos (by decide),hset,F80_c3,w64s (by omega) (by omega)]
      exact_mod_cast ih
    | true=>
      rw[if_neg (by rw[e];simp), ←List.drop_eq_getElem_cons hc']at ih
      rw[if_neg (by decide),F80_c3,w64s (by omega) (by omega)]
      exact_mod_cast ih
   ·rw[if_neg (fun k=>b k.1), ←List.drop_eq_getElem_cons hc']at ih
    rw[if_neg b,Option.bind_some,if_neg (by decide),F80_c3,w64s (by omega) (by omega)]
    exact_mod_cast ih
theorem trim_l5 {d:S55} (h:Dr d) (a:List Bool) (ha:a.length=d.f1.length):∀ (m i fuel:Nat),i+m=d.f1.length→m<fuel→
 F80_l5 5000 d a d.f2 fuel ((d.f1.take i).map fun r=>r.map (tr a)) (i:Int)=some (TRM d a)
 | 0,i,f+1,hi,_=>by
   rw[F80_l5.eq_2,if_neg (by omega),F80_c0,List.take_of_length_le (by omega)];rfl
 | m+1,i,f+1,hi,hf=>by
   have hn:=h.n2
   have hi':i<d.f1.length:=by omega
   have hr:d.f1[i]∈d.f1:=List.getElem_mem hi'
   have h256:=h.row256 _ hr
   have ih:=trim_l5 h a ha m (i+1) f (by omega) (by omega)
   rw[F80_l5.eq_2,if_pos (by omega),if_pos ⟨by omega,by omega⟩,lget_lt _ i hi']
   unfold F104b
   rw[if_pos (by simp;omega),Option.bind_some,List.nil_append]
   have e:=trim_l4 (d:=d) (F80_l5 5000 d a d.f2 f) a ((d.f1.take i).map fun r=>r.map (tr a)) (i:Int) d.f1[i] (fun q hq=>by rw[ha];exact(h.ent _ hr q hq).2) (by omega) d.f1[i].length 0 5000 (by omega) (by omega)
   rw[Int.natCast_zero,List.take_zero,List.drop_zero,List.map_nil,List.nil_append]at e
   rw[e,F80_c2,if_pos (by simp;omega),F80_c1,w64s (by omega) (by omega)]
   have:(d.f1.take (i+1)).map (fun r=>r.map (tr a))=(d.f1.take i).map (fun r=>r.map (tr a))++[d.f1[i].map (tr a)]:=by
    rw[←List.take_append_getElem hi',List.map_append];rfl
   rw[this]at ih
   exact_mod_cast ih
theorem trim_eq {d:S55} (h:Dr d):∃ A,AS d A∧F80 5000 d=some (TRM d A):=by
 obtain⟨A,a1,a2⟩:=alive_eq h
 have hn:=h.n2
 have hm:=h.ml
 refine⟨A,a2,?_⟩
 unfold F80
 rw[a1,Option.bind_some]
 unfold F104a
 rw[if_pos (by simp;omega),Option.bind_some,List.nil_append]
 have:=trim_l5 h A a2.1 d.f1.length 0 5000 (by omega) (by omega)
 rw[Int.natCast_zero,List.take_zero]at this
 exact this
def plc:List Int→Int→Int→Int
 | [],_,_=> -1
 | y::l,x,i=>if y=x then i else plc l x (i+1)
def pl (l:List Int) (x:Int):Int:=plc l x 0
theorem plc_not {x:Int}:∀ (l:List Int) (i:Int),x∉l→plc l x i= -1
 | [],_,_=>rfl
 | y::l,i,h=>by
   rw[plc,if_neg (fun e=>h (by simp[e])),plc_not l (i+1) (fun e=>h (by simp[e]))]
theorem plc_app {x:Int} (m:List Int):∀ (l:List Int) (i:Int),x∈l→plc (l++m) x i=plc l x i
 | y::l,i,h=>by
   rw[List.cons_append,plc,plc]
   by_cases e:y=x
   ·rw[if_pos e,if_pos e]
   ·rw[if_neg e,if_neg e,plc_app m l (i+1) ((List.mem_cons.1 h).resolve_left fun k=>e k.symm)]
theorem plc_last {x:Int}:∀ (l:List Int) (i:Int),x∉l→plc (l++[x]) x i=i+l.length
 | [],i,_=>by simp[plc]
 | y::l,i,h=>by
   rw[List.cons_append,plc,if_neg (fun e=>h (by simp[e])),plc_last l (i+1) (fun e=>h (by simp[e])),List.length_cons];omega
theorem plc_other {x y:Int} (e:y≠x):∀ (l:List Int) (i:Int),plc (l++[y]) x i=plc l x i
 | [],i=>by simp[plc,e]
 | z::l,i=>by rw[List.cons_append,plc,plc,plc_other e l (i+1)]
theorem plc_get {x:Int}:∀ (l:List Int) (i:Int),x∈l→∃ j:Nat,j<l.length∧plc l x i=i+j∧lget l (j:Int)=x
 | y::l,i,h=>by
   by_cases e:y=x
   ·exact⟨0,by simp,by rw[plc,if_pos e];omega,e⟩
   ·obtain⟨j,j1,j2,j3⟩:=plc_get l (i+1) ((List.mem_cons.1 h).resolve_left fun k=>e k.symm)
    refine⟨j+1,by simp;omega,by rw[plc,if_neg e,j2];omega,?_⟩
    rw[lget_lt _ _ (by simp;omega)]
    rw[lget_lt _ _ j1]at j3
    simpa using j3
theorem pl_not {l:List Int} {x:Int} (h:x∉l):pl l x= -1:=plc_not l 0 h
theorem pl_get {l:List Int} {x:Int} (h:x∈l):∃ j:Nat,j<l.length∧pl l x=j∧lget l (j:Int)=x:=by
 obtain⟨j,j1,j2,j3⟩:=plc_get l 0 h
 exact⟨j,j1,by unfold pl;omega,j3⟩
theorem pl_app {l:List Int} {x:Int} (m:List Int) (h:x∈l):pl (l++m) x=pl l x:=plc_app m l 0 h
def addO (L:List Int) (x:Int):List Int:=if 0≤x∧x∉L then L++[x]else L
def ordR (L:List Int) (r:List Int):List Int:=r.foldl addO L
theorem addO_pre (L:List Int) (x:Int):∃ m,addO L x=L++m:=by
 unfold addO;split
 ·exact⟨[x],rfl⟩
 ·exact⟨[],by simp⟩
theorem ordR_pre:∀ (r L:List Int),∃ m,ordR L r=L++m
 | [],L=>⟨[],by simp[ordR]⟩
 | x::r,L=>by
   obtain⟨m,hm⟩:=addO_pre L x
   obtain⟨k,hk⟩:=ordR_pre r (addO L x)
   refine⟨m++k,?_⟩
   show ordR (addO L x) r=_
   rw[hk,hm,List.append_assoc]
theorem addO_mem {L:List Int} {x:Int} (h:0≤x):x∈addO L x:=by
 unfold addO;split
 ·simp
 ·rename_i c
  by_cases q:x∈L
  ·exact q
  ·exact absurd ⟨h,q⟩ c
theorem ordR_mem:∀ (r L:List Int) {x:Int},x∈r→0≤x→x∈ordR L r
 | y::r,L,x,h,h0=>by
   show x∈ordR (addO L y) r
   rcases List.mem_cons.1 h with rfl|h
   ·obtain⟨m,hm⟩:=ordR_pre r (addO L x)
    rw[hm];exact List.mem_append_left _ (addO_mem h0)
   ·exact ordR_mem r _ h h0
theorem ordR_from:∀ (r L:List Int) {x:Int},x∈ordR L r→x∈L∨(x∈r∧0≤x)
 | [],L,x,h=>.inl h
 | y::r,L,x,h=>by
   have h':x∈ordR (addO L y) r:=h
   rcases ordR_from r _ h' with k|k
   ·unfold addO at k
    split at k
    ·rename_i c
     rcases List.mem_append.1 k with k|k
     ·exact .inl k
     ·have:x=y:=by simpa using k
      subst this
      exact .inr ⟨by simp,c.1⟩
    ·exact .inl k
   ·exact .inr ⟨by simp[k.1],k.2⟩
theorem addO_nodup {L:List Int} {x:Int} (h:L.Nodup):(addO L x).Nodup:=by
 unfold addO;split
 ·rename_i c
  rw[List.nodup_append]
  refine⟨h,by simp,fun a ha b hb=>?_⟩
  have:b=x:=by simpa using hb
  subst this
  intro e;subst e;exact c.2 ha
 ·exact h
theorem ordR_nodup:∀ (r L:List Int),L.Nodup→(ordR L r).Nodup
 | [],_,h=>h
 | x::r,L,h=>ordR_nodup r _ (addO_nodup h)
theorem nodup_len:∀ (n:Nat) (L:List Int),L.Nodup→(∀ x∈L,0≤x∧x<(n:Int))→L.length≤n
 | 0,L,_,h=>by
   cases L with
   | nil=>simp
   | cons x L=>have:=h x (by simp);omega
 | n+1,L,hn,h=>by
   have ih:=nodup_len n (L.erase (n:Int)) (hn.erase _) (fun x hx=>by
    rw[hn.mem_erase_iff]at hx
    have:=h x hx.2
    omega)
   by_cases q:(n:Int)∈L
   ·rw[List.length_erase_of_mem q]at ih;omega
   ·rw[List.erase_of_not_mem q]at ih;omega
def obs (d:S55):Nat→List Int→Nat→List Int
 | 0,L,_=>L
 | m+1,L,i=>if i<L.length then obs d m (ordR L (rw' d (lget L (i:Int)))) (i+1)else L
def OL (d:S55):List Int:=obs d 5000 [0] 0
def OD (d:S55) (L:List Int):S55:=S55.mk d.f0 (L.map fun q=>(rw' d q).map (pl L)) (L.map fun q=>lget d.f2 q)
def ORD (d:S55):S55:=OD d (OL d)
structure OI (d:S55) (L:List Int) (i:Nat):Prop where
 nd:L.Nodup
 rng:∀ x∈L,0≤x∧x<(d.f1.length:Int)
 rch:∀ x∈L,DR d 0 x
 cls:∀ j:Nat,j<i→∀ x∈rw' d (lget L (j:Int)),0≤x→x∈L
 le:i≤L.length
 hd:∃ m,L=0::m
theorem OI.len {d:S55} {L:List Int} {i:Nat} (h:OI d L i):L.length≤d.f1.length:=nodup_len _ L h.nd h.rng
theorem OI.start {d:S55} (h:Dr d):OI d [0] 0:=
 ⟨by simp,fun x hx=>by have:=h.n1;have e:x=0:=by simpa using hx
                       subst e;omega,fun x hx=>by have e:x=0:=by simpa using hx
                                                  subst e;exact .refl,fun j hj=>by omega,by simp,⟨[],rfl⟩⟩
theorem lget_pre {L m:List Int} {j:Nat} (h:j<L.length):lget (L++m) (j:Int)=lget L (j:Int):=by
 rw[lget_lt _ j (by simp;omega),lget_lt L j h,List.getElem_append_left]
theorem OI.next {d:S55} (hd:Dr d) {L:List Int} {i:Nat} (h:OI d L i) (hi:i<L.length):OI d (ordR L (rw' d (lget L (i:Int)))) (i+1):=by
 obtain⟨m,hm⟩:=ordR_pre (rw' d (lget L (i:Int))) L
 have hmem:lget L (i:Int)∈L:=mem_lget (by omega) (by omega)
 have hq:=h.rng _ hmem
 refine⟨ordR_nodup _ _ h.nd,fun x hx=>?_,fun x hx=>?_,fun j hj x hx h0=>?_,by rw[hm];simp;omega,?_⟩
 ·rcases ordR_from _ _ hx with k|k
  ·exact h.rng x k
  ·exact⟨k.2,row_lt hd hq.1 hq.2 x k.1⟩
 ·rcases ordR_from _ _ hx with k|k
  ·exact h.rch x k
  ·obtain⟨c,hc,rfl⟩:=lget_mem k.1
   exact .step (h.rch _ hmem) (by omega) k.2
 ·have hjL:j<L.length:=by have:=h.le;omega
  by_cases e:j=i
  ·subst e
   rw[hm,lget_pre hjL]at hx
   exact ordR_mem _ _ hx h0
  ·rw[hm,lget_pre hjL]at hx
   rw[hm]
   exact List.mem_append_left _ (h.cls j (by omega) x hx h0)
 ·obtain⟨k,hk⟩:=h.hd
  refine⟨k++m,?_⟩
  rw[hm,hk,List.cons_append]
theorem obs_OI {d:S55} (hd:Dr d):∀ (m:Nat) (L:List Int) (i:Nat),OI d L i→d.f1.length<i+m→OI d (obs d m L i) (obs d m L i).length
 | 0,L,i,h,hm=>by
   have:=h.len
   have:=h.le
   omega
 | m+1,L,i,h,hm=>by
   rw[obs]
   by_cases a:i<L.length
   ·rw[if_pos a]
    exact obs_OI hd m _ (i+1) (h.next hd a) (by omega)
   ·rw[if_neg a]
    have:=h.le
    have e:i=L.length:=by omega
    rw[←e];exact h
theorem OL_OI {d:S55} (hd:Dr d):OI d (OL d) (OL d).length:=obs_OI hd 5000 [0] 0 (OI.start hd) (by have:=hd.n2;omega)
theorem row_pl {L m:List Int} {r:List Int} (h:∀ x∈r, -1≤x) (hc:∀ x∈r,0≤x→x∈L) (hL:∀ x∈L++m,0≤x):r.map (pl (L++m))=r.map (pl L):=by
 apply List.map_congr_left
 intro x hx
 by_cases a:0≤x
 ·exact pl_app m (hc x hx a)
 ·rw[pl_not (fun k=>a (hL x k)),pl_not (fun k=>a (hL x (by simp[k])))]
theorem row_ge {d:S55} (h:Dr d) {p:Int} (h0:0≤p) (h1:p<(d.f1.length:Int)):∀ q∈rw' d p, -1≤q:=fun q hq=>(h.ent _ (mem_lget h0 h1) q hq).1
theorem order_l5 {d:S55} (h:Dr d) (rec23:List Int→List (List Int)→List Int→List Int→Int→Option S55) (x17:List (List Int)) (x19:List Int) (L0:List Int) (i:Nat) (q:Int) (hq:lget L0 (i:Int)=q) (hq0:0≤q∧q<(d.f1.length:Int)):
 ∀ (m c fuel:Nat) (nb L acc:List Int),c+m=(rw' d q).length→m<fuel→nb.length=d.f1.length→(∀ x:Int,0≤x→x<(d.f1.length:Int)→lget nb x=pl L x)→(∀ x∈L,0≤x)→L.length+m≤100000→acc.length=c→
 ∃ nb',F79_l5 5000 rec23 d x17 x19 L0 (i:Int) fuel nb L acc (c:Int)=F79_c2 5000 rec23 d x17 x19 (i:Int) nb' (ordR L ((rw' d q).drop c)) (acc++((rw' d q).drop c).map (pl (ordR L ((rw' d q).drop c))))∧
  nb'.length=d.f1.length∧(∀ x:Int,0≤x→x<(d.f1.length:Int)→lget nb' x=pl (ordR L ((rw' d q).drop c)) x)
 | 0,c,f+1,nb,L,acc,hc,_,hn,hp,hL,hz,ha=>by
   have hcn:¬ (c:Int)<((lget d.f1 q).length:Int):=by
    have:¬ (c:Int)<((rw' d q).length:Int):=by omega
    exact this
   rw[F79_l5.eq_2,hq,if_neg hcn,List.drop_of_length_le (by omega)]
   exact⟨nb,by simp[ordR],hn,hp⟩
 | m+1,c,f+1,nb,L,acc,hc,hf,hn,hp,hL,hz,ha=>by
   have hc':c<(rw' d q).length:=by omega
   have hcI:(c:Int)<((lget d.f1 q).length:Int):=by
    have:(c:Int)<((rw' d q).length:Int):=by omega
    exact this
   have he:=h.entk hq0.1 hq0.2 (c:=(c:Int)) (by omega) hcI
   have h256:(rw' d q).length≤256:=h.row256 _ (mem_lget hq0.1 hq0.2)
   have hn2:=h.n2
   have ge:lget (lget d.f1 q) (c:Int)=(rw' d q)[c]:=lget_lt (rw' d q) c hc'
   have hmx:(rw' d q)[c]∈rw' d q:=List.getElem_mem hc'
   rw[F79_l5.eq_2,hq,if_pos hcI,if_pos ⟨by omega,hcI⟩]
   unfold F79_c4 F79_c3
   rw[hq,ge,List.drop_eq_getElem_cons hc',List.map_cons]
   rw[ge]at he
   have hd2:ordR L ((rw' d q)[c]::(rw' d q).drop (c+1))=ordR (addO L (rw' d q)[c]) ((rw' d q).drop (c+1)):=rfl
   rw[hd2]
   generalize hto:(rw' d q)[c]=to at he
   have hlen:∀ v:Int,(acc++[v]).length*8≤140737488355328:=fun v=>by simp;omega
   have stab:∀ L1:List Int,(∀ x∈L1,0≤x)→(0≤to→to∈L1)→pl (ordR L1 ((rw' d q).drop (c+1))) to=pl L1 to:=by
    intro L1 h1 h2
    obtain⟨k,hk⟩:=ordR_pre ((rw' d q).drop (c+1)) L1
    by_cases a:0≤to
    ·rw[hk];exact pl_app k (h2 a)
    ·rw[pl_not (fun z=>a (h1 _ z)),pl_not (fun z=>?_)]
     rcases ordR_from _ _ z with z|z
     ·exact a (h1 _ z)
     ·exact a z.2
   by_cases a:0≤to
   ·have g:0≤to∧to<(nb.length:Int):=⟨a,by omega⟩
    rw[if_pos a,if_pos g,hp to a (by omega),Option.bind_some]
    by_cases b:to∈L
    ·obtain⟨j,j1,j2,j3⟩:=pl_get b
     have hadd:addO L to=L:=by unfold addO;rw[if_neg (fun k=>k.2 b)]
     rw[if_neg (by rw[j2];simp),if_pos a,if_pos g,if_pos (hlen _),w64s (by omega) (by omega),hadd,stab L hL (fun _=>b)]
     obtain⟨nb',n1,n2,n3⟩:=order_l5 h rec23 x17 x19 L0 i q hq hq0 m (c+1) f nb L (acc++[pl L to]) (by omega) (by omega) hn hp hL (by omega) (by simp[ha])
     refine⟨nb',?_,n2,n3⟩
     rw[List.append_assoc]at n1
     exact_mod_cast n1
    ·have hadd:addO L to=L++[to]:=by unfold addO;rw[if_pos ⟨a,b⟩]
     have hpl:pl (L++[to]) to=(L.length:Int):=by unfold pl;rw[plc_last L 0 b];omega
     have hL1:∀ x∈L++[to],0≤x:=fun x hx=>by
      rcases List.mem_append.1 hx with k|k
      ·exact hL x k
      ·have e:x=to:=by simpa using k
       subst e;exact a
     have g':0≤to∧to<((lset nb to (L.length:Int)).length:Int):=⟨a,by rw[lset_len];omega⟩
     have hgetI:∀ (l:List Int) (i q v:Int),0≤i→i<(l.length:Int)→0≤q→lget (lset l i v) q=if q=i then v else lget l q:=by
      intro l i q v h0 h1 hq
      unfold lget lset
      rw[List.getD,List.getD,List.getElem?_set]
      by_cases e:i.toNat=q.toNat
      ·rw[if_pos e,if_pos (by omega),if_pos (by omega)];rfl
      ·rw[if_neg e,if_neg (by omega)]
     rw[pl_not b,if_pos (by decide),if_pos g,if_pos (by simp;omega),if_pos a,if_pos g',hgetI nb to to _ a (by omega) a,if_pos rfl,if_pos (hlen _),w64s (by omega) (by omega),hadd,stab _ hL1 (fun _=>by simp),hpl]
     obtain⟨nb',n1,n2,n3⟩:=order_l5 h rec23 x17 x19 L0 i q hq hq0 m (c+1) f (lset nb to (L.length:Int)) (L++[to]) (acc++[(L.length:Int)]) (by omega) (by omega) (by rw[lset_len];exact hn) (fun x h0 h1=>by
      rw[hgetI nb to x _ a (by omega) h0]
      by_cases e:x=to
      ·rw[if_pos e,e,hpl]
      ·rw[if_neg e,hp x h0 h1];unfold pl;rw[plc_other (fun k=>e k.symm)]) hL1 (by simp;omega) (by simp[ha])
     refine⟨nb',?_,n2,n3⟩
     rw[List.append_assoc]at n1
     exact_mod_cast n1
   ·have e1:to= -1:=by omega
    have hadd:addO L to=L:=by unfold addO;rw[if_neg (fun k=>a k.1)]
    rw[if_neg a,Option.bind_some,if_neg (by decide),if_neg a,if_pos (hlen _),w64s (by omega) (by omega),hadd,stab L hL (fun k=>absurd k a),pl_not (fun z=>a (hL _ z))]
    obtain⟨nb',n1,n2,n3⟩:=order_l5 h rec23 x17 x19 L0 i q hq hq0 m (c+1) f nb L (acc++[(-1:Int)]) (by omega) (by omega) hn hp hL (by omega) (by simp[ha])
    refine⟨nb',?_,n2,n3⟩
    rw[List.append_assoc]at n1
    rw[e1]
    exact_mod_cast n1
theorem OD_take {d:S55} (hd:Dr d) {L:List Int} {i:Nat} (h:OI d L i) (hi:i<L.length) (m:List Int) (hm:ordR L (rw' d (lget L (i:Int)))=L++m):
 ((L++m).take (i+1)).map (fun q=>(rw' d q).map (pl (L++m)))=(L.take i).map (fun q=>(rw' d q).map (pl L))++[(rw' d (lget L (i:Int))).map (pl (L++m))]:=by
 rw[List.take_append_of_le_length (by omega), ←List.take_append_getElem hi,List.map_append,List.map_singleton,lget_lt L i hi]
 congr 1
 apply List.map_congr_left
 intro q hq
 obtain⟨j,hj,rfl⟩:=List.getElem_of_mem hq
 have hj':j<i:=by simp at hj;omega
 have hjL:j<L.length:=by omega
 have e:(L.take i)[j]=lget L (j:Int):=by rw[List.getElem_take,lget_lt L j hjL]
 have hrg:=h.rng _ (mem_lget (l:=L) (i:=(j:Int)) (by omega) (by omega))
 rw[e]
 refine row_pl (row_ge hd hrg.1 hrg.2) (fun x hx h0=>h.cls j hj' x hx h0) fun x hx=>?_
 have:=(h.next hd hi).rng x (by rw[hm];exact hx)
 exact this.1
theorem order_l6 {d:S55} (hd:Dr d):∀ (m:Nat) (nb L:List Int) (i:Nat),OI d L i→d.f1.length<i+m→nb.length=d.f1.length→(∀ x:Int,0≤x→x<(d.f1.length:Int)→lget nb x=pl L x)→
 F79_l6 5000 d m nb ((L.take i).map fun q=>(rw' d q).map (pl L)) ((L.take i).map fun q=>lget d.f2 q) L (i:Int)=some (OD d (obs d m L i))
 | 0,nb,L,i,h,hm,_,_=>by
   have:=h.len
   have:=h.le
   omega
 | m+1,nb,L,i,h,hm,hn,hp=>by
   have hlen:=h.len
   have hle:=h.le
   have hn2:=hd.n2
   rw[F79_l6.eq_2,obs]
   by_cases a:i<L.length
   ·have hmem:lget L (i:Int)∈L:=mem_lget (by omega) (by omega)
    have hq:=h.rng _ hmem
    have hm2:=hd.ml
    have h256:(rw' d (lget L (i:Int))).length≤256:=hd.row256 _ (mem_lget hq.1 hq.2)
    have h256':(lget d.f1 (lget L (i:Int))).length≤256:=h256
    have hnx:=h.next hd a
    have hnl:=hnx.len
    obtain⟨k,hk⟩:=ordR_pre (rw' d (lget L (i:Int))) L
    obtain⟨nb',n1,n2,n3⟩:=order_l5 hd (F79_l6 5000 d m) ((L.take i).map fun q=>(rw' d q).map (pl L)) ((L.take i).map fun q=>lget d.f2 q) L i (lget L (i:Int)) rfl hq (rw' d (lget L (i:Int))).length 0 5000 nb L [] (by omega) (by omega) hn hp (fun x hx=>(h.rng x hx).1) (by omega) rfl
    rw[Int.natCast_zero,List.drop_zero,List.nil_append]at n1
    rw[List.drop_zero]at n3
    rw[if_pos a,if_pos (by omega),if_pos ⟨by omega,by omega⟩,if_pos hq,if_pos ⟨by omega,by omega,by omega⟩,if_pos ⟨by omega,by omega⟩,if_pos hq,n1]
    unfold F79_c2 F79_c1
    rw[hk]at hnx hnl n3⊢
    have hgl:lget (L++k) (i:Int)=lget L (i:Int):=lget_pre a
    rw[if_pos (by simp;omega),if_pos ⟨by omega,by simp;omega⟩,hgl,if_pos ⟨hq.1,by omega⟩,if_pos (by simp;omega),w64s (by omega) (by omega)]
    have ih:=order_l6 hd m nb' (L++k) (i+1) hnx (by omega) n2 n3
    rw[OD_take hd h a k hk]at ih
    have e2:((L++k).take (i+1)).map (fun q=>lget d.f2 q)=(L.take i).map (fun q=>lget d.f2 q)++[lget d.f2 (lget L (i:Int))]:=by
     rw[List.take_append_of_le_length (by omega), ←List.take_append_getElem a,List.map_append,List.map_singleton,lget_lt L i a]
    rw[e2]at ih
    exact_mod_cast ih
   ·rw[if_neg a,if_neg (by omega),F79_c0]
    have e:i=L.length:=by omega
    rw[e,List.take_length];rfl
theorem lget_neg (N:Nat) (x:Int) (h0:0≤x) (h1:x<(N:Int)):lget (List.replicate N (-1:Int)) x= -1:=by
 unfold lget
 rw[List.getD,List.getElem?_replicate,if_pos (by omega)];rfl
theorem order_l8 {d:S55} (hd:Dr d):∀ (m i fuel:Nat),i+m=d.f1.length→m<fuel→
 F79_l8 5000 d fuel (List.replicate i (-1:Int)++List.replicate m (0:Int)) (i:Int)=F79_c7 5000 d (List.replicate d.f1.length (-1:Int))
 | 0,i,f+1,hi,_=>by
   rw[F79_l8.eq_2,if_neg (by simp;omega),show i=d.f1.length by omega];simp
 | m+1,i,f+1,hi,hf=>by
   have hn2:=hd.n2
   have ih:=order_l8 hd m (i+1) f (by omega) (by omega)
   rw[F79_l8.eq_2,if_pos (by simp;omega),if_pos ⟨by omega,by simp;omega⟩,w64s (by omega) (by omega)]
   have e:lset (List.replicate i (-1:Int)++List.replicate (m+1) (0:Int)) (i:Int) (-1)=List.replicate (i+1) (-1:Int)++List.replicate m (0:Int):=by
    unfold lset
    rw[Int.toNat_natCast,List.set_append_right _ _ (by simp),show i - (List.replicate i (-1:Int)).length=0 by simp,List.replicate_succ,List.set_cons_zero,List.replicate_succ',List.append_assoc];rfl
   rw[e]
   exact_mod_cast ih
theorem order_eq {d:S55} (hd:Dr d):F79 5000 d=some (ORD d):=by
 have h1:=hd.n1
 have h2:=hd.n2
 unfold F79
 rw[if_pos ⟨by omega,by omega,by omega⟩,Int.toNat_natCast]
 have e:=order_l8 hd d.f1.length 0 5000 (by omega) (by omega)
 rw[Int.natCast_zero,List.replicate_zero,List.nil_append]at e
 rw[e,F79_c7,if_neg (by omega),if_pos ⟨by omega,by simp;omega⟩]
 have:=order_l6 hd 5000 (lset (List.replicate d.f1.length (-1:Int)) 0 0) [0] 0 (OI.start hd) (by omega) (by rw[lset_len,List.length_replicate]) (fun x h0 hx=>by
  unfold lset
  by_cases q:x=0
  ·subst q
   unfold lget pl plc
   rw[List.getD,List.getElem?_set_self (by simp;omega)];rfl
  ·have hne:(0:Int).toNat≠x.toNat:=by omega
   have e2:pl [0] x= -1:=pl_not (by simpa using q)
   refine Eq.trans ?_ ((lget_neg d.f1.length x h0 hx).trans e2.symm)
   unfold lget
   rw[List.getD,List.getD,List.getElem?_set_ne hne])
 exact this
end Go.Avl.T7
