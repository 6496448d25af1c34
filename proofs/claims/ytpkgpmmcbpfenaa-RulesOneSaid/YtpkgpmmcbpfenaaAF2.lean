/- Parts: T7f92, T7f73, T7f93, T7f134, T7f120, T7f121, T7f94, T7f74. -/
import Derived.Test.YtpkgpmmcbpfenaaAF1
namespace Go.Avl.T7
open Go Go.RowKit Go.Proofs Go.Avl
set_option linter.unusedVariables false
set_option maxRecDepth 100000
set_option maxHeartbeats 4000000
attribute [local irreducible] AW AO AQ Spec SpecH Calm
def F92a_c0 (k:Nat) (x4:(List S131)) (b5:Bool) (x6:ByteArray) (x7:Int) (x8:Int):Option ((List S131)×Bool×S140):=
 some (x4,b5,(S140.mk x6 x7 x8))
def F92a_l1 (k:Nat) (self115:(S140→Option ((List S131)×Bool×S140))):Nat→ByteArray→Int→Int→(List S131)→Bool→Option ((List S131)×Bool×S140)
 | 0,_,_,_,_,_=>none
 | j+1,x9,x10,x11,x12,b13=>
   Option.bind (α:=ByteArray×Int×Int×Bool) (if b13=true then(F116 k (S140.mk x9 x10 x11) (124:Int)).bind fun t22=>
   some (t22.2.f0,t22.2.f1,t22.2.f2,t22.1)
   else some (x9,x10,x11,false)) fun (x16,x17,x18,b19)=>
   if b19=true then(self115 (S140.mk x16 x17 x18)).bind fun t25=>
   (F117 k (3:Int) [x12,t25.1]).bind fun t28=>
   (F92a_l1 k self115 j) t25.2.2.f0 t25.2.2.f1 t25.2.2.f2 t28 t25.2.1
   else F92a_c0 k x12 b13 x16 x17 x18
def F92b_c0 (k:Nat) (x4:(List S131)) (b5:Bool) (x6:ByteArray) (x7:Int) (x8:Int):Option ((List S131)×Bool×S140):=
 some (x4,b5,(S140.mk x6 x7 x8))
def F92b_l1 (k:Nat) (self132:(S140→Option ((List S131)×Bool×S140))):Nat→ByteArray→Int→Int→(List S131)→Bool→Option ((List S131)×Bool×S140)
 | 0,_,_,_,_,_=>none
 | j+1,x9,x10,x11,x12,b13=>
   Option.bind (α:=Bool) (if b13=true then(F133 k (S140.mk x9 x10 x11) (ByteArray.mk #[124,41])).bind fun t19=>
   some (!t19)
   else some (false)) fun b16=>
   if b16=true then(self132 (S140.mk x9 x10 x11)).bind fun t22=>
   (F117 k (2:Int) [x12,t22.1]).bind fun t25=>
   (F92b_l1 k self132 j) t22.2.2.f0 t22.2.2.f1 t22.2.2.f2 t25 t22.2.1
   else F92b_c0 k x12 b13 x9 x10 x11
def F92c_c0 (k:Nat) (x4:ByteArray) (x5:Int) (x6:Int):Option ((List S131)×Bool×S140):=
 some ([],false,(S140.mk x4 x5 x6))
def F92c_l1 (k:Nat) (t2:((List S131)×Bool×S140)):Nat→ByteArray→Int→Int→(List S131)→Option ((List S131)×Bool×S140)
 | 0,_,_,_,_=>none
 | j+1,x7,x8,x9,x10=>
   if t2.2.1=true then(F116 k (S140.mk x7 x8 x9) (42:Int)).bind fun t14=>
   if t14.1=true then(F117 k (4:Int) [x10]).bind fun t18=>
   (F92c_l1 k t2 j) t14.2.f0 t14.2.f1 t14.2.f2 t18
   else(F116 k t14.2 (43:Int)).bind fun t19=>
   if t19.1=true then(F117 k (5:Int) [x10]).bind fun t23=>
   (F92c_l1 k t2 j) t19.2.f0 t19.2.f1 t19.2.f2 t23
   else(F116 k t19.2 (63:Int)).bind fun t24=>
   if t24.1=true then(F117 k (6:Int) [x10]).bind fun t28=>
   (F92c_l1 k t2 j) t24.2.f0 t24.2.f1 t24.2.f2 t28
   else some (x10,true,t24.2)
   else F92c_c0 k x7 x8 x9
mutual
def F92a_r (k:Nat):Nat→S140→Option ((List S131)×Bool×S140)
 | 0,_=>none
 | j+1,p0=>
   ((F92b_r k j) p0).bind fun t2=>
   F92a_l1 k (F92b_r k j) k t2.2.2.f0 t2.2.2.f1 t2.2.2.f2 t2.1 t2.2.1
def F92b_r (k:Nat):Nat→S140→Option ((List S131)×Bool×S140)
 | 0,_=>none
 | j+1,p0=>
   ((F92c_r k j) p0).bind fun t2=>
   F92b_l1 k (F92c_r k j) k t2.2.2.f0 t2.2.2.f1 t2.2.2.f2 t2.1 t2.2.1
def F92c_r (k:Nat):Nat→S140→Option ((List S131)×Bool×S140)
 | 0,_=>none
 | j+1,p0=>
   ((F92d_r k j) p0).bind fun t2=>
   F92c_l1 k t2 k t2.2.2.f0 t2.2.2.f1 t2.2.2.f2 t2.1
def F92d_r (k:Nat):Nat→S140→Option ((List S131)×Bool×S140)
 | 0,_=>none
 | j+1,p0=>
   (F133 k p0 (ByteArray.mk #[124,41,42,43,63,93,47,34])).bind fun t2=>
   if t2=true then some ([],false,p0)
   else(F116 k p0 (46:Int)).bind fun t5=>
   if t5.1=true then(F142 k).bind fun t8=>
   some ([(S131.mk (1:Int) t8)],true,t5.2)
   else(F116 k t5.2 (126:Int)).bind fun t10=>
   if t10.1=true then some ([(S131.mk (0:Int) (Vector.replicate 4 (0:Int)))],true,t10.2)
   else(F116 k t10.2 (40:Int)).bind fun t14=>
   if t14.1=true then((F92a_r k j) (S140.mk t14.2.f0 t14.2.f1 (w64 (t14.2.f2+(1:Int))))).bind fun t17=>
   Option.bind (α:=Bool×ByteArray×Int×Int) (if t17.2.1=true then if(w64 (t17.2.2.f2 - (1:Int)))<(99:Int)then(F116 k (S140.mk t17.2.2.f0 t17.2.2.f1 (w64 (t17.2.2.f2 - (1:Int)))) (41:Int)).bind fun t26=>
   some (t26.1,t26.2.f0,t26.2.f1,t26.2.f2)
   else some (false,t17.2.2.f0,t17.2.2.f1,(w64 (t17.2.2.f2 - (1:Int))))
   else some (false,t17.2.2.f0,t17.2.2.f1,(w64 (t17.2.2.f2 - (1:Int))))) fun (b19,x20,x21,x22)=>
   some (t17.1,b19,(S140.mk x20 x21 x22))
   else(F116 k t14.2 (91:Int)).bind fun t28=>
   if t28.1=true then(F143 k t28.2).bind fun t31=>
   some (t31.1,t31.2.1,t31.2.2)
   else(F144 k t28.2).bind fun t33=>
   (F61 k [t33.1]).bind fun t36=>
   some ([(S131.mk (1:Int) t36)],t33.2.1,t33.2.2)
end
def F92a (k:Nat) (p0:S140):Option ((List S131)×Bool×S140):=F92a_r k k p0
theorem F92a_all (k:Nat):∀ j:Nat,(∀ (p0:S140) (r:((List S131)×Bool×S140)),F92a_r k j p0=some r→∀ (q0:Nat) (T0:Heap),SpecH Try.prog 92 [(.ptr q0 0)] ((q0,(.mem (e140 p0)))::T0) (fun x H'=>x=.tup [(.fz 5 (r.1.map e131)),(eBool r.2.1)]∧Sub ((q0,(.mem (e140 r.2.2)))::T0) H'))∧(∀ (p0:S140) (r:((List S131)×Bool×S140)),F92b_r k j p0=some r→∀ (q0:Nat) (T0:Heap),SpecH Try.prog 115 [(.ptr q0 0)] ((q0,(.mem (e140 p0)))::T0) (fun x H'=>x=.tup [(.fz 5 (r.1.map e131)),(eBool r.2.1)]∧Sub ((q0,(.mem (e140 r.2.2)))::T0) H'))∧(∀ (p0:S140) (r:((List S131)×Bool×S140)),F92c_r k j p0=some r→∀ (q0:Nat) (T0:Heap),SpecH Try.prog 132 [(.ptr q0 0)] ((q0,(.mem (e140 p0)))::T0) (fun x H'=>x=.tup [(.fz 5 (r.1.map e131)),(eBool r.2.1)]∧Sub ((q0,(.mem (e140 r.2.2)))::T0) H'))∧(∀ (p0:S140) (r:((List S131)×Bool×S140)),F92d_r k j p0=some r→∀ (q0:Nat) (T0:Heap),SpecH Try.prog 140 [(.ptr q0 0)] ((q0,(.mem (e140 p0)))::T0) (fun x H'=>x=.tup [(.fz 5 (r.1.map e131)),(eBool r.2.1)]∧Sub ((q0,(.mem (e140 r.2.2)))::T0) H')):=by
 intro j
 induction j with
 | zero=>exact⟨(by intro p0 r h;rw[F92a_r.eq_1]at h;cases h),(by intro p0 r h;rw[F92b_r.eq_1]at h;cases h),(by intro p0 r h;rw[F92c_r.eq_1]at h;cases h),(by intro p0 r h;rw[F92d_r.eq_1]at h;cases h)⟩
 | succ j hself=>
 obtain⟨hself92,hself115,hself132,hself140⟩:=hself
 refine⟨?_,?_,?_,?_⟩
 ·intro p0 r h q0 T0
  rw[F92a_r.eq_2]at h
  generalize hsself92:F92a_r k j=self92 at h hself92
  generalize hsself115:F92b_r k j=self115 at h hself115
  generalize hsself132:F92c_r k j=self132 at h hself132
  generalize hsself140:F92d_r k j=self140 at h hself140
  refine SpecH.intro (res:=[.tmp 2,.tmp 3]) Try.func92 rfl rfl rfl (Nat.le_of_ble_eq_true rfl) ?_
  refine .a 8 ?_
  obtain⟨t2,et2,h⟩:=ob h
  refine .callH [(.ptr q0 0)] ((q0,(.mem (e140 p0)))::T0) _ rfl rfl rfl 9 rfl (by decide) ok115 ⟨rfl,rfl,trivial⟩ (.cons 0 rfl (.refl _)) (hself115 _ _ et2 _ _) ?_
  rintro _ _ ⟨rfl,hs3⟩
  refine .wH [0,8,9] hs3 ?_
  refine .a 5 ?_
  refine .nK [0,4,5] ?_
  refine .seq_mid (fun ρ H=>∃ (x4:(List S131)) (b5:Bool) (x6:ByteArray) (x7:Int) (x8:Int),ρ=[(4,(.fz 5 (x4.map e131))),(5,(eBool b5))]∧H=((Z17 q0 x6 x7 x8)::T0)∧F92a_c0 k x4 b5 x6 x7 x8=some r) ?_ ?_
  ·refine .a 1 ?_
   refine .wK [0,4,5] ?_
   refine .loop (fun kq ρ H=>∃ (x9:ByteArray) (x10:Int) (x11:Int) (x12:(List S131)) (b13:Bool),ρ=[(0,(.ptr q0 0)),(4,(.fz 5 (x12.map e131))),(5,(eBool b13))]∧H=((Z17 q0 x9 x10 x11)::T0)∧F92a_l1 k self115 kq x9 x10 x11 x12 b13=some r) k ⟨t2.2.2.f0,t2.2.2.f1,t2.2.2.f2,t2.1,t2.2.1,rfl,rfl,h⟩ ?_
   rintro kq15 _ _ ⟨x9,x10,x11,x12,b13,rfl,rfl,h⟩
   cases kq15 with
   | zero=>rw[F92a_l1.eq_1]at h;cases h
   | succ kq15=>
   rw[F92a_l1.eq_2]at h
   generalize hrec14:F92a_l1 k self115 kq15=rec14 at h
   refine .a 2 ?_
   obtain⟨⟨x16,x17,x18,b19⟩,q20,h⟩:=ob h
   refine .regM [(0,(.ptr q0 0)),(4,(.fz 5 (x12.map e131))),(5,(eBool b13)),(16,(eBool b19))] ((Z17 q0 x16 x17 x18)::T0) ?_ ?_
   ·refine .a 2 ?_
    rcases oi q20 with⟨c21,q20⟩|⟨c21,q20⟩
    ·refine .a 1 ?_
     obtain⟨t22,et22,q20⟩:=ob q20
     refine .unguard 1 true 13 rfl rfl (bD c21) ?_
     refine .callH [(.ptr q0 0),(eU8 (124:Int))] ((Z24 q0 (S140.mk x9 x10 x11))::T0) _ rfl rfl rfl 15 rfl (by decide) ok116 ⟨rfl,rfl,rfl,rfl,trivial⟩ (.cons 0 rfl (.refl _)) (F116_spec et22) ?_
     rintro _ _ ⟨rfl,hs23⟩
     refine .wH [0,4,5,12,13,14,15] hs23 ?_
     refine .a 1 ?_
     cases q20
     refine .nilE ⟨rfl,rfl⟩ ?_ ?_
     ·exact⟨rfl,rfl,rfl,rfl,trivial⟩
     exact(.refl _)
    refine .a 3 ?_
    cases q20
    refine .nilE ⟨rfl,rfl⟩ ?_ ?_
    ·exact⟨rfl,rfl,rfl,rfl,trivial⟩
    exact(.refl _)
   rcases oi h with⟨c24,h⟩|⟨c24,h⟩
   ·refine .a 10 ?_
    obtain⟨t25,et25,h⟩:=ob h
    refine .callH [(.ptr q0 0)] ((Z24 q0 (S140.mk x16 x17 x18))::T0) _ rfl rfl rfl 19 rfl (by decide) ok115 ⟨rfl,rfl,trivial⟩ (.cons 0 rfl (.refl _)) (hself115 _ _ et25 _ _) ?_
    rintro _ _ ⟨rfl,hs26⟩
    refine .wH [0,4,18,19] hs26 ?_
    refine .a 9 ?_
    refine .lit (Z:=(.fl (.slice none 0 0))) (xs:=(([x12,t25.1]:List (List S131)).map e68)) (qs:=[(0,(.fz 5 (x12.map e131))),(1,(Z11 t25.1))]) rfl 24 rfl (by decide) rfl ⟨rfl,rfl,rfl,rfl,rfl,rfl,trivial⟩ Try.underlying132 sz68 zr68 lay68 rfl (by decide) (litOK (z:=1) [(.fz 5 (x12.map e131)),(Z11 t25.1)] rfl ⟨⟨rfl,rfl⟩,⟨rfl,rfl⟩,trivial⟩) rfl fun n27=>?_
    obtain⟨t28,et28,h⟩:=ob h
    refine .freezeS 0 [(24,(.fz 1 (([x12,t25.1]:List (List S131)).map e68)))] rfl ⟨fz_all rfl,trivial⟩ ?_
    refine .callS [(eI64 (3:Int)),(.fz 1 (([x12,t25.1]:List (List S131)).map e68))] (.fz 5 (t28.map e131)) 25 rfl (by decide) ok117 rfl rfl rfl ⟨rfl,rfl,rfl,rfl,trivial⟩ (F117_spec et28) ?_
    refine .a 1 ?_
    refine .nK [0,4,5] ?_
    exact⟨kq15,Nat.lt_succ_self _,t25.2.2.f0,t25.2.2.f1,t25.2.2.f2,t28,t25.2.1,rfl,rfl,by rw[hrec14];exact h⟩
   refine .a 1 ?_
   refine .eK [4,5] ?_
   exact⟨x12,b13,x16,x17,x18,rfl,rfl,h⟩
  rintro _ _ ⟨x4,b5,x6,x7,x8,rfl,rfl,h⟩
  rw[F92a_c0.eq_1]at h
  refine .a 6 ?_
  refine .nK [2,3] ?_
  refine .rK [2,3] ?_
  have hr:=Option.some.inj h
  subst hr
  exact⟨[(.fz 5 (x4.map e131)),(eBool b5)],⟨rfl,rfl,rfl,rfl,trivial⟩,rfl,(.cons 0 rfl (.refl _))⟩
 ·intro p0 r h q0 T0
  rw[F92b_r.eq_2]at h
  generalize hsself92:F92a_r k j=self92 at h hself92
  generalize hsself115:F92b_r k j=self115 at h hself115
  generalize hsself132:F92c_r k j=self132 at h hself132
  generalize hsself140:F92d_r k j=self140 at h hself140
  refine SpecH.intro (res:=[.tmp 2,.tmp 3]) Try.func115 rfl rfl rfl (Nat.le_of_ble_eq_true rfl) ?_
  refine .a 8 ?_
  obtain⟨t2,et2,h⟩:=ob h
  refine .callH [(.ptr q0 0)] ((q0,(.mem (e140 p0)))::T0) _ rfl rfl rfl 9 rfl (by decide) ok132 ⟨rfl,rfl,trivial⟩ (.cons 0 rfl (.refl _)) (hself132 _ _ et2 _ _) ?_
  rintro _ _ ⟨rfl,hs3⟩
  refine .wH [0,8,9] hs3 ?_
  refine .a 5 ?_
  refine .nK [0,4,5] ?_
  refine .seq_mid (fun ρ H=>∃ (x4:(List S131)) (b5:Bool) (x6:ByteArray) (x7:Int) (x8:Int),ρ=[(4,(.fz 5 (x4.map e131))),(5,(eBool b5))]∧H=((Z17 q0 x6 x7 x8)::T0)∧F92b_c0 k x4 b5 x6 x7 x8=some r) ?_ ?_
  ·refine .a 1 ?_
   refine .wK [0,4,5] ?_
   refine .loop (fun kq ρ H=>∃ (x9:ByteArray) (x10:Int) (x11:Int) (x12:(List S131)) (b13:Bool),ρ=[(0,(.ptr q0 0)),(4,(.fz 5 (x12.map e131))),(5,(eBool b13))]∧H=((Z17 q0 x9 x10 x11)::T0)∧F92b_l1 k self132 kq x9 x10 x11 x12 b13=some r) k ⟨t2.2.2.f0,t2.2.2.f1,t2.2.2.f2,t2.1,t2.2.1,rfl,rfl,h⟩ ?_
   rintro kq15 _ _ ⟨x9,x10,x11,x12,b13,rfl,rfl,h⟩
   cases kq15 with
   | zero=>rw[F92b_l1.eq_1]at h;cases h
   | succ kq15=>
   rw[F92b_l1.eq_2]at h
   generalize hrec14:F92b_l1 k self132 kq15=rec14 at h
   refine .a 2 ?_
   obtain⟨b16,q17,h⟩:=ob h
   refine .regM [(0,(.ptr q0 0)),(4,(.fz 5 (x12.map e131))),(5,(eBool b13)),(17,(eBool b16))] ((Z17 q0 x9 x10 x11)::T0) ?_ ?_
   ·refine .a 2 ?_
    rcases oi q17 with⟨c18,q17⟩|⟨c18,q17⟩
    ·refine .a 1 ?_
     obtain⟨t19,et19,q17⟩:=ob q17
     refine .unguard 1 true 13 rfl rfl (bD c18) ?_
     refine .callH [(.ptr q0 0),(eStr (ByteArray.mk #[124,41]))] ((Z24 q0 (S140.mk x9 x10 x11))::T0) _ rfl rfl rfl 15 rfl (by decide) ok133 ⟨rfl,rfl,rfl,rfl,trivial⟩ (.cons 0 rfl (.refl _)) (F133_spec et19) ?_
     rintro _ _ ⟨rfl,hs20⟩
     refine .wH [0,4,5,12,13,14,15] hs20 ?_
     refine .a 2 ?_
     cases q17
     refine .nilE ⟨rfl,rfl⟩ ?_ ?_
     ·exact⟨rfl,rfl,rfl,rfl,trivial⟩
     exact(.refl _)
    refine .a 4 ?_
    cases q17
    refine .nilE ⟨rfl,rfl⟩ ?_ ?_
    ·exact⟨rfl,rfl,rfl,rfl,trivial⟩
    exact(.refl _)
   rcases oi h with⟨c21,h⟩|⟨c21,h⟩
   ·refine .a 10 ?_
    obtain⟨t22,et22,h⟩:=ob h
    refine .callH [(.ptr q0 0)] ((Z24 q0 (S140.mk x9 x10 x11))::T0) _ rfl rfl rfl 20 rfl (by decide) ok132 ⟨rfl,rfl,trivial⟩ (.cons 0 rfl (.refl _)) (hself132 _ _ et22 _ _) ?_
    rintro _ _ ⟨rfl,hs23⟩
    refine .wH [0,4,19,20] hs23 ?_
    refine .a 9 ?_
    refine .lit (Z:=(.fl (.slice none 0 0))) (xs:=(([x12,t22.1]:List (List S131)).map e68)) (qs:=[(0,(.fz 5 (x12.map e131))),(1,(Z11 t22.1))]) rfl 25 rfl (by decide) rfl ⟨rfl,rfl,rfl,rfl,rfl,rfl,trivial⟩ Try.underlying132 sz68 zr68 lay68 rfl (by decide) (litOK (z:=1) [(.fz 5 (x12.map e131)),(Z11 t22.1)] rfl ⟨⟨rfl,rfl⟩,⟨rfl,rfl⟩,trivial⟩) rfl fun n24=>?_
    obtain⟨t25,et25,h⟩:=ob h
    refine .freezeS 0 [(25,(.fz 1 (([x12,t22.1]:List (List S131)).map e68)))] rfl ⟨fz_all rfl,trivial⟩ ?_
    refine .callS [(eI64 (2:Int)),(.fz 1 (([x12,t22.1]:List (List S131)).map e68))] (.fz 5 (t25.map e131)) 26 rfl (by decide) ok117 rfl rfl rfl ⟨rfl,rfl,rfl,rfl,trivial⟩ (F117_spec et25) ?_
    refine .a 1 ?_
    refine .nK [0,4,5] ?_
    exact⟨kq15,Nat.lt_succ_self _,t22.2.2.f0,t22.2.2.f1,t22.2.2.f2,t25,t22.2.1,rfl,rfl,by rw[hrec14];exact h⟩
   refine .a 1 ?_
   refine .eK [4,5] ?_
   exact⟨x12,b13,x9,x10,x11,rfl,rfl,h⟩
  rintro _ _ ⟨x4,b5,x6,x7,x8,rfl,rfl,h⟩
  rw[F92b_c0.eq_1]at h
  refine .a 6 ?_
  refine .nK [2,3] ?_
  refine .rK [2,3] ?_
  have hr:=Option.some.inj h
  subst hr
  exact⟨[(.fz 5 (x4.map e131)),(eBool b5)],⟨rfl,rfl,rfl,rfl,trivial⟩,rfl,(.cons 0 rfl (.refl _))⟩
 ·intro p0 r h q0 T0
  rw[F92c_r.eq_2]at h
  generalize hsself92:F92a_r k j=self92 at h hself92
  generalize hsself115:F92b_r k j=self115 at h hself115
  generalize hsself132:F92c_r k j=self132 at h hself132
  generalize hsself140:F92d_r k j=self140 at h hself140
  refine SpecH.intro (res:=[.tmp 2,.tmp 3]) Try.func132 rfl rfl rfl (Nat.le_of_ble_eq_true rfl) ?_
  refine .a 8 ?_
  obtain⟨t2,et2,h⟩:=ob h
  refine .callH [(.ptr q0 0)] ((q0,(.mem (e140 p0)))::T0) _ rfl rfl rfl 8 rfl (by decide) ok140 ⟨rfl,rfl,trivial⟩ (.cons 0 rfl (.refl _)) (hself140 _ _ et2 _ _) ?_
  rintro _ _ ⟨rfl,hs3⟩
  refine .wH [0,7,8] hs3 ?_
  refine .a 5 ?_
  refine .nK [0,4,5] ?_
  refine .seq_mid (fun ρ H=>∃ (x4:ByteArray) (x5:Int) (x6:Int),ρ=[]∧H=((Z17 q0 x4 x5 x6)::T0)∧F92c_c0 k x4 x5 x6=some r) ?_ ?_
  ·refine .a 1 ?_
   refine .wK [0,4,5] ?_
   refine .loop (fun kq ρ H=>∃ (x7:ByteArray) (x8:Int) (x9:Int) (x10:(List S131)),ρ=[(0,(.ptr q0 0)),(4,(.fz 5 (x10.map e131))),(5,(eBool t2.2.1))]∧H=((Z17 q0 x7 x8 x9)::T0)∧F92c_l1 k t2 kq x7 x8 x9 x10=some r) k ⟨t2.2.2.f0,t2.2.2.f1,t2.2.2.f2,t2.1,rfl,rfl,h⟩ ?_
   rintro kq12 _ _ ⟨x7,x8,x9,x10,rfl,rfl,h⟩
   cases kq12 with
   | zero=>rw[F92c_l1.eq_1]at h;cases h
   | succ kq12=>
   rw[F92c_l1.eq_2]at h
   generalize hrec11:F92c_l1 k t2 kq12=rec11 at h
   refine .a 5 ?_
   rcases oi h with⟨c13,h⟩|⟨c13,h⟩
   ·refine .a 7 ?_
    obtain⟨t14,et14,h⟩:=ob h
    refine .callH [(.ptr q0 0),(eU8 (42:Int))] ((Z24 q0 (S140.mk x7 x8 x9))::T0) _ rfl rfl rfl 15 rfl (by decide) ok116 ⟨rfl,rfl,rfl,rfl,trivial⟩ (.cons 0 rfl (.refl _)) (F116_spec et14) ?_
    rintro _ _ ⟨rfl,hs15⟩
    refine .wH [0,4,5,14,15] hs15 ?_
    refine .a 2 ?_
    rcases oi h with⟨c16,h⟩|⟨c16,h⟩
    ·refine .a 3 ?_
     refine .lit (Z:=(.fl (.slice none 0 0))) (xs:=(([x10]:List (List S131)).map e68)) (qs:=[(0,(.fz 5 (x10.map e131)))]) rfl 17 rfl (by decide) rfl ⟨rfl,rfl,rfl,trivial⟩ Try.underlying132 sz68 zr68 lay68 rfl (by decide) (litOK (z:=1) [(.fz 5 (x10.map e131))] rfl ⟨⟨rfl,rfl⟩,trivial⟩) rfl fun n17=>?_
     obtain⟨t18,et18,h⟩:=ob h
     refine .freezeS 0 [(17,(.fz 1 (([x10]:List (List S131)).map e68)))] rfl ⟨fz_all rfl,trivial⟩ ?_
     refine .callS [(eI64 (4:Int)),(.fz 1 (([x10]:List (List S131)).map e68))] (.fz 5 (t18.map e131)) 18 rfl (by decide) ok117 rfl rfl rfl ⟨rfl,rfl,rfl,rfl,trivial⟩ (F117_spec et18) ?_
     refine .a 1 ?_
     refine .nK [0,4,5] ?_
     exact⟨kq12,Nat.lt_succ_self _,t14.2.f0,t14.2.f1,t14.2.f2,t18,rfl,rfl,by rw[hrec11];exact h⟩
    refine .a 4 ?_
    obtain⟨t19,et19,h⟩:=ob h
    refine .callH [(.ptr q0 0),(eU8 (43:Int))] ((Z24 q0 t14.2)::T0) _ rfl rfl rfl 21 rfl (by decide) ok116 ⟨rfl,rfl,rfl,rfl,trivial⟩ (.cons 0 rfl (.refl _)) (F116_spec et19) ?_
    rintro _ _ ⟨rfl,hs20⟩
    refine .wH [0,4,5,13,20,21] hs20 ?_
    refine .a 2 ?_
    rcases oi h with⟨c21,h⟩|⟨c21,h⟩
    ·refine .a 3 ?_
     refine .lit (Z:=(.fl (.slice none 0 0))) (xs:=(([x10]:List (List S131)).map e68)) (qs:=[(0,(.fz 5 (x10.map e131)))]) rfl 23 rfl (by decide) rfl ⟨rfl,rfl,rfl,trivial⟩ Try.underlying132 sz68 zr68 lay68 rfl (by decide) (litOK (z:=1) [(.fz 5 (x10.map e131))] rfl ⟨⟨rfl,rfl⟩,trivial⟩) rfl fun n22=>?_
     obtain⟨t23,et23,h⟩:=ob h
     refine .freezeS 0 [(23,(.fz 1 (([x10]:List (List S131)).map e68)))] rfl ⟨fz_all rfl,trivial⟩ ?_
     refine .callS [(eI64 (5:Int)),(.fz 1 (([x10]:List (List S131)).map e68))] (.fz 5 (t23.map e131)) 24 rfl (by decide) ok117 rfl rfl rfl ⟨rfl,rfl,rfl,rfl,trivial⟩ (F117_spec et23) ?_
     refine .a 1 ?_
     refine .nK [0,4,5] ?_
     exact⟨kq12,Nat.lt_succ_self _,t19.2.f0,t19.2.f1,t19.2.f2,t23,rfl,rfl,by rw[hrec11];exact h⟩
    refine .a 4 ?_
    obtain⟨t24,et24,h⟩:=ob h
    refine .callH [(.ptr q0 0),(eU8 (63:Int))] ((Z24 q0 t19.2)::T0) _ rfl rfl rfl 27 rfl (by decide) ok116 ⟨rfl,rfl,rfl,rfl,trivial⟩ (.cons 0 rfl (.refl _)) (F116_spec et24) ?_
    rintro _ _ ⟨rfl,hs25⟩
    refine .wH [0,4,5,19,26,27] hs25 ?_
    refine .a 2 ?_
    rcases oi h with⟨c26,h⟩|⟨c26,h⟩
    ·refine .a 3 ?_
     refine .lit (Z:=(.fl (.slice none 0 0))) (xs:=(([x10]:List (List S131)).map e68)) (qs:=[(0,(.fz 5 (x10.map e131)))]) rfl 29 rfl (by decide) rfl ⟨rfl,rfl,rfl,trivial⟩ Try.underlying132 sz68 zr68 lay68 rfl (by decide) (litOK (z:=1) [(.fz 5 (x10.map e131))] rfl ⟨⟨rfl,rfl⟩,trivial⟩) rfl fun n27=>?_
     obtain⟨t28,et28,h⟩:=ob h
     refine .freezeS 0 [(29,(.fz 1 (([x10]:List (List S131)).map e68)))] rfl ⟨fz_all rfl,trivial⟩ ?_
     refine .callS [(eI64 (6:Int)),(.fz 1 (([x10]:List (List S131)).map e68))] (.fz 5 (t28.map e131)) 30 rfl (by decide) ok117 rfl rfl rfl ⟨rfl,rfl,rfl,rfl,trivial⟩ (F117_spec et28) ?_
     refine .a 1 ?_
     refine .nK [0,4,5] ?_
     exact⟨kq12,Nat.lt_succ_self _,t24.2.f0,t24.2.f1,t24.2.f2,t28,rfl,rfl,by rw[hrec11];exact h⟩
    refine .a 6 ?_
    refine .nK [2,3] ?_
    refine .rK [2,3] ?_
    have hr:=Option.some.inj h
    subst hr
    exact⟨[(.fz 5 (x10.map e131)),(eBool true)],⟨rfl,rfl,rfl,rfl,trivial⟩,rfl,(.cons 0 rfl (.refl _))⟩
   refine .a 1 ?_
   refine .eK [] ?_
   exact⟨x7,x8,x9,rfl,rfl,h⟩
  rintro _ _ ⟨x4,x5,x6,rfl,rfl,h⟩
  rw[F92c_c0.eq_1]at h
  refine .a 4 ?_
  refine .nK [2,3] ?_
  refine .coeC 2 (y':=(Z11 ([]:List S131))) rfl Coe.nil ?_
  refine .rK [2,3] ?_
  cases h
  exact⟨[(Z11 ([]:List S131)),(eBool false)],⟨rfl,rfl,rfl,rfl,trivial⟩,rfl,(.cons 0 rfl (.refl _))⟩
 intro p0 r h q0 T0
 rw[F92d_r.eq_2]at h
 generalize hsself92:F92a_r k j=self92 at h hself92
 generalize hsself115:F92b_r k j=self115 at h hself115
 generalize hsself132:F92c_r k j=self132 at h hself132
 generalize hsself140:F92d_r k j=self140 at h hself140
 refine SpecH.intro (res:=[.tmp 2,.tmp 3]) Try.func140 rfl rfl rfl (Nat.le_of_ble_eq_true rfl) ?_
 refine .a 10 ?_
 obtain⟨t2,et2,h⟩:=ob h
 refine .callH [(.ptr q0 0),(eStr (ByteArray.mk #[124,41,42,43,63,93,47,34]))] ((q0,(.mem (e140 p0)))::T0) _ rfl rfl rfl 10 rfl (by decide) ok133 ⟨rfl,rfl,rfl,rfl,trivial⟩ (.cons 0 rfl (.refl _)) (F133_spec et2) ?_
 rintro _ _ ⟨rfl,hs3⟩
 refine .wH [0,9,10] hs3 ?_
 refine .a 2 ?_
 rcases oi h with⟨c4,h⟩|⟨c4,h⟩
 ·refine .a 5 ?_
  refine .nK [2,3] ?_
  refine .coeC 2 (y':=(Z11 ([]:List S131))) rfl Coe.nil ?_
  refine .rK [2,3] ?_
  cases h
  exact⟨[(Z11 ([]:List S131)),(eBool false)],⟨rfl,rfl,rfl,rfl,trivial⟩,rfl,(.cons 0 rfl (.refl _))⟩
 refine .a 4 ?_
 obtain⟨t5,et5,h⟩:=ob h
 refine .callH [(.ptr q0 0),(eU8 (46:Int))] ((q0,(.mem (e140 p0)))::T0) _ rfl rfl rfl 13 rfl (by decide) ok116 ⟨rfl,rfl,rfl,rfl,trivial⟩ (.cons 0 rfl (.refl _)) (F116_spec et5) ?_
 rintro _ _ ⟨rfl,hs6⟩
 refine .wH [0,8,12,13] hs6 ?_
 refine .a 2 ?_
 rcases oi h with⟨c7,h⟩|⟨c7,h⟩
 ·refine .a 3 ?_
  obtain⟨t8,et8,h⟩:=ob h
  refine .callS [] (.ar 1 (t8.toList.map eU64)) 14 rfl (by decide) ok142 rfl rfl rfl trivial (F142_spec et8) ?_
  refine .c (x:=(Z21 (1:Int) (t8.toList.map eU64))) (.build (qs:=[(0,(eI64 (1:Int))),(1,(.ar 1 (t8.toList.map eU64)))]) rfl ⟨rfl,rfl,rfl,rfl,rfl,rfl,trivial⟩ Try.underlying131 rfl zr131 lay131 (.cons rfl rfl rfl rfl (.cast (.fld0 .here) rfl) (.cons rfl rfl (vec_size _ _) (vec_size _ _) (.cast (.fldS (.fld0 .here)) rfl) .nil)) rfl) ?_
  refine .lit (Z:=(Z21 (0:Int) ((Vector.replicate 4 (0:Int)).toList.map eU64))) (xs:=(([(S131.mk (1:Int) t8)]:List S131).map e131)) (qs:=[(0,(e131 (S131.mk (1:Int) t8)))]) rfl 16 rfl (by decide) rfl ⟨rfl,rfl,rfl,trivial⟩ Try.underlying68 sz131 zr131 lay131 rfl (by decide) (litOK (z:=5) [(e131 (S131.mk (1:Int) t8))] rfl ⟨⟨rfl,rfl⟩,trivial⟩) rfl fun n9=>?_
  refine .a 2 ?_
  refine .nH [2,3] (H':=((Z24 q0 t5.2)::(n9,(.mem (.ar 5 (([(S131.mk (1:Int) t8)]:List S131).map e131))))::T0)) (.cons 1 rfl (.cons 0 rfl (.refl _))) ?_
  refine .freezeS 1 [(2,(Z11 ([(S131.mk (1:Int) t8)]:List S131)))] rfl ⟨fz_all rfl,trivial⟩ ?_
  refine .rK [2,3] ?_
  cases h
  exact⟨[(Z11 ([(S131.mk (1:Int) t8)]:List S131)),(eBool true)],⟨rfl,rfl,rfl,rfl,trivial⟩,rfl,(.cons 0 rfl (.refl _))⟩
 refine .a 4 ?_
 obtain⟨t10,et10,h⟩:=ob h
 refine .callH [(.ptr q0 0),(eU8 (126:Int))] ((Z24 q0 t5.2)::T0) _ rfl rfl rfl 19 rfl (by decide) ok116 ⟨rfl,rfl,rfl,rfl,trivial⟩ (.cons 0 rfl (.refl _)) (F116_spec et10) ?_
 rintro _ _ ⟨rfl,hs11⟩
 refine .wH [0,11,18,19] hs11 ?_
 refine .a 2 ?_
 rcases oi h with⟨c12,h⟩|⟨c12,h⟩
 ·refine .a 3 ?_
  refine .c (x:=(Z21 (0:Int) ((Vector.replicate 4 (0:Int)).toList.map eU64))) (.build (qs:=[(0,(eI64 (0:Int)))]) rfl ⟨rfl,rfl,rfl,trivial⟩ Try.underlying131 rfl zr131 lay131 (.cons rfl rfl rfl rfl (.cast (.fld0 .here) rfl) .nil) rfl) ?_
  refine .lit (Z:=(Z21 (0:Int) ((Vector.replicate 4 (0:Int)).toList.map eU64))) (xs:=(([(S131.mk (0:Int) (Vector.replicate 4 (0:Int)))]:List S131).map e131)) (qs:=[(0,(e131 (S131.mk (0:Int) (Vector.replicate 4 (0:Int)))))]) rfl 21 rfl (by decide) rfl ⟨rfl,rfl,rfl,trivial⟩ Try.underlying68 sz131 zr131 lay131 rfl (by decide) (litOK (z:=5) [(e131 (S131.mk (0:Int) (Vector.replicate 4 (0:Int))))] rfl ⟨⟨rfl,rfl⟩,trivial⟩) rfl fun n13=>?_
  refine .a 2 ?_
  refine .nH [2,3] (H':=((Z24 q0 t10.2)::(n13,(.mem (.ar 5 (([(S131.mk (0:Int) (Vector.replicate 4 (0:Int)))]:List S131).map e131))))::T0)) (.cons 1 rfl (.cons 0 rfl (.refl _))) ?_
  refine .freezeS 1 [(2,(Z11 ([(S131.mk (0:Int) (Vector.replicate 4 (0:Int)))]:List S131)))] rfl ⟨fz_all rfl,trivial⟩ ?_
  refine .rK [2,3] ?_
  cases h
  exact⟨[(Z11 ([(S131.mk (0:Int) (Vector.replicate 4 (0:Int)))]:List S131)),(eBool true)],⟨rfl,rfl,rfl,rfl,trivial⟩,rfl,(.cons 0 rfl (.refl _))⟩
 refine .a 4 ?_
 obtain⟨t14,et14,h⟩:=ob h
 refine .callH [(.ptr q0 0),(eU8 (40:Int))] ((Z24 q0 t10.2)::T0) _ rfl rfl rfl 24 rfl (by decide) ok116 ⟨rfl,rfl,rfl,rfl,trivial⟩ (.cons 0 rfl (.refl _)) (F116_spec et14) ?_
 rintro _ _ ⟨rfl,hs15⟩
 refine .wH [0,17,23,24] hs15 ?_
 refine .a 2 ?_
 rcases oi h with⟨c16,h⟩|⟨c16,h⟩
 ·refine .a 10 ?_
  refine .store 0 rfl rfl rfl rfl rfl rfl (.cast (.fldS (.fldS (.fld0 .here))) rfl) rfl rfl sz3 rfl ?_
  refine .a 4 ?_
  obtain⟨t17,et17,h⟩:=ob h
  refine .callH [(.ptr q0 0)] ((Z24 q0 (S140.mk t14.2.f0 t14.2.f1 (w64 (t14.2.f2+(1:Int)))))::T0) _ rfl rfl rfl 34 rfl (by decide) ok92 ⟨rfl,rfl,trivial⟩ (.cons 0 rfl (.refl _)) (hself92 _ _ et17 _ _) ?_
  rintro _ _ ⟨rfl,hs18⟩
  refine .wH [0,33,34] hs18 ?_
  refine .a 15 ?_
  refine .store 0 rfl rfl rfl rfl rfl rfl (.cast (.fldS (.fldS (.fld0 .here))) rfl) rfl rfl sz3 rfl ?_
  refine .a 2 ?_
  obtain⟨⟨b19,x20,x21,x22⟩,q23,h⟩:=ob h
  refine .regM [(2,(Z11 t17.1)),(3,(eBool b19))] ((Z17 q0 x20 x21 x22)::T0) ?_ ?_
  ·refine .a 3 ?_
   rcases oi q23 with⟨c24,q23⟩|⟨c24,q23⟩
   ·refine .a 7 ?_
    rcases oi q23 with⟨c25,q23⟩|⟨c25,q23⟩
    ·refine .a 1 ?_
     obtain⟨t26,et26,q23⟩:=ob q23
     refine .unguard 9 true 53 rfl rfl (bD (decide_eq_true c25)) ?_
     refine .callH [(.ptr q0 0),(eU8 (41:Int))] ((Z24 q0 (S140.mk t17.2.2.f0 t17.2.2.f1 (w64 (t17.2.2.f2 - (1:Int)))))::T0) _ rfl rfl rfl 55 rfl (by decide) ok116 ⟨rfl,rfl,rfl,rfl,trivial⟩ (.cons 0 rfl (.refl _)) (F116_spec et26) ?_
     rintro _ _ ⟨rfl,hs27⟩
     refine .wH [0,4,5,44,45,46,47,48,49,50,51,52,53,54,55] hs27 ?_
     refine .a 3 ?_
     cases q23
     refine .nilE ⟨rfl,rfl⟩ ?_ ?_
     ·exact⟨rfl,rfl,trivial⟩
     exact(.refl _)
    refine .a 5 ?_
    cases q23
    refine .nilE ⟨rfl,rfl⟩ ?_ ?_
    ·exact⟨rfl,rfl,trivial⟩
    exact(.refl _)
   refine .a 12 ?_
   cases q23
   refine .nilE ⟨rfl,rfl⟩ ?_ ?_
   ·exact⟨rfl,rfl,trivial⟩
   exact(.refl _)
  refine .rK [2,3] ?_
  have hr:=Option.some.inj h
  subst hr
  exact⟨[(Z11 t17.1),(eBool b19)],⟨rfl,rfl,rfl,rfl,trivial⟩,rfl,(.cons 0 rfl (.refl _))⟩
 refine .a 4 ?_
 obtain⟨t28,et28,h⟩:=ob h
 refine .callH [(.ptr q0 0),(eU8 (91:Int))] ((Z24 q0 t14.2)::T0) _ rfl rfl rfl 59 rfl (by decide) ok116 ⟨rfl,rfl,rfl,rfl,trivial⟩ (.cons 0 rfl (.refl _)) (F116_spec et28) ?_
 rintro _ _ ⟨rfl,hs29⟩
 refine .wH [0,22,58,59] hs29 ?_
 refine .a 2 ?_
 rcases oi h with⟨c30,h⟩|⟨c30,h⟩
 ·refine .a 4 ?_
  obtain⟨t31,et31,h⟩:=ob h
  refine .callH [(.ptr q0 0)] ((Z24 q0 t28.2)::T0) _ rfl rfl rfl 61 rfl (by decide) ok143 ⟨rfl,rfl,trivial⟩ (.cons 0 rfl (.refl _)) (F143_spec et31) ?_
  rintro _ _ ⟨rfl,hs32⟩
  refine .wH [0,57,60,61] hs32 ?_
  refine .a 4 ?_
  refine .nK [2,3] ?_
  refine .rK [2,3] ?_
  cases h
  exact⟨[(Z11 t31.1),(eBool t31.2.1)],⟨rfl,rfl,rfl,rfl,trivial⟩,rfl,(.cons 0 rfl (.refl _))⟩
 refine .a 5 ?_
 obtain⟨t33,et33,h⟩:=ob h
 refine .callH [(.ptr q0 0)] ((Z24 q0 t28.2)::T0) _ rfl rfl rfl 66 rfl (by decide) ok144 ⟨rfl,rfl,trivial⟩ (.cons 0 rfl (.refl _)) (F144_spec et33) ?_
 rintro _ _ ⟨rfl,hs34⟩
 refine .wH [0,65,66] hs34 ?_
 refine .a 9 ?_
 refine .lit (Z:=(eU8 (0:Int))) (xs:=(([t33.1]:List Int).map eU8)) (qs:=[(0,(eU8 t33.1))]) rfl 70 rfl (by decide) rfl ⟨rfl,rfl,rfl,trivial⟩ Try.underlying102 sz5 zr5 lay5 rfl (by decide) (litOK (z:=1) [(eU8 t33.1)] rfl ⟨⟨rfl,rfl⟩,trivial⟩) rfl fun n35=>?_
 obtain⟨t36,et36,h⟩:=ob h
 refine .freezeS 0 [(70,(.fz 1 (([t33.1]:List Int).map eU8)))] rfl ⟨fz_all rfl,trivial⟩ ?_
 refine .callS [(.fz 1 (([t33.1]:List Int).map eU8))] (.ar 1 (t36.toList.map eU64)) 71 rfl (by decide) ok61 rfl rfl rfl ⟨rfl,rfl,trivial⟩ (F61_spec et36) ?_
 refine .c (x:=(Z21 (1:Int) (t36.toList.map eU64))) (.build (qs:=[(0,(eI64 (1:Int))),(1,(.ar 1 (t36.toList.map eU64)))]) rfl ⟨rfl,rfl,rfl,rfl,rfl,rfl,trivial⟩ Try.underlying131 rfl zr131 lay131 (.cons rfl rfl rfl rfl (.cast (.fld0 .here) rfl) (.cons rfl rfl (vec_size _ _) (vec_size _ _) (.cast (.fldS (.fld0 .here)) rfl) .nil)) rfl) ?_
 refine .lit (Z:=(Z21 (0:Int) ((Vector.replicate 4 (0:Int)).toList.map eU64))) (xs:=(([(S131.mk (1:Int) t36)]:List S131).map e131)) (qs:=[(0,(e131 (S131.mk (1:Int) t36)))]) rfl 73 rfl (by decide) rfl ⟨rfl,rfl,rfl,trivial⟩ Try.underlying68 sz131 zr131 lay131 rfl (by decide) (litOK (z:=5) [(e131 (S131.mk (1:Int) t36))] rfl ⟨⟨rfl,rfl⟩,trivial⟩) rfl fun n37=>?_
 refine .a 3 ?_
 refine .nH [2,3] (H':=((Z24 q0 t33.2.2)::(n37,(.mem (.ar 5 (([(S131.mk (1:Int) t36)]:List S131).map e131))))::T0)) (.cons 1 rfl (.cons 0 rfl (.refl _))) ?_
 refine .freezeS 1 [(2,(Z11 ([(S131.mk (1:Int) t36)]:List S131)))] rfl ⟨fz_all rfl,trivial⟩ ?_
 refine .rK [2,3] ?_
 cases h
 exact⟨[(Z11 ([(S131.mk (1:Int) t36)]:List S131)),(eBool t33.2.1)],⟨rfl,rfl,rfl,rfl,trivial⟩,rfl,(.cons 0 rfl (.refl _))⟩
theorem F92a_spec {k:Nat} {p0:S140} {r:((List S131)×Bool×S140)} (h:F92a k p0=some r) {q0:Nat} {T0:Heap}:SpecH Try.prog 92 [(.ptr q0 0)] ((q0,(.mem (e140 p0)))::T0) (fun x H'=>x=.tup [(.fz 5 (r.1.map e131)),(eBool r.2.1)]∧Sub ((q0,(.mem (e140 r.2.2)))::T0) H'):=(F92a_all k k).1 p0 r h q0 T0
def F73 (k:Nat) (p0:ByteArray):Option ((List S131)×Int):=
 if(1600:Int)<(p0.size:Int)then some ([],(6:Int))
 else(F92a k (S140.mk p0 (0:Int) (0:Int))).bind fun t4=>
 Option.bind (α:=Bool) (if(!t4.2.1)=true then some (true)
 else some (decide (t4.2.2.f1<(p0.size:Int)))) fun b6=>
 if b6=true then some ([],(5:Int))
 else if(400:Int)<(t4.1.length:Int)then some ([],(6:Int))
 else some (t4.1,(0:Int))
theorem F73_spec {k:Nat} {p0:ByteArray} {r:((List S131)×Int)} (h:F73 k p0=some r):Spec Try.prog 73 [(eStr p0)] (.tup [(.fz 5 (r.1.map e131)),(eI64 r.2)]):=by
 rw[F73.eq_1]at h
 refine Spec.intro (res:=[.tmp 2,.tmp 3]) Try.func73 rfl rfl rfl (Nat.le_of_ble_eq_true rfl) ?_
 refine .a 12 ?_
 rcases oi h with⟨c2,h⟩|⟨c2,h⟩
 ·refine .a 5 ?_
  refine .nK [2,3] ?_
  refine .coeC 2 (y':=(Z11 ([]:List S131))) rfl Coe.nil ?_
  refine .rK [2,3] ?_
  cases h
  exact⟨[(Z11 ([]:List S131)),(eI64 (6:Int))],⟨rfl,rfl,rfl,rfl,trivial⟩,rfl⟩
 refine .a 5 ?_
 refine .c (x:=(.st [(1,(eStr p0)),(1,(eI64 (0:Int))),(1,(eI64 (0:Int)))])) (.build (qs:=[(0,(eStr p0))]) rfl ⟨rfl,rfl,rfl,trivial⟩ Try.underlying140 rfl zr140 lay140 (.cons rfl rfl rfl rfl (.cast (.fld0 .here) rfl) .nil) rfl) ?_
 refine .box rfl 12 rfl (by decide) rfl rfl rfl fun n3=>?_
 refine .a 5 ?_
 obtain⟨t4,et4,h⟩:=ob h
 refine .callH [(.ptr n3 0)] [(Z24 n3 (S140.mk p0 (0:Int) (0:Int)))] _ rfl rfl rfl 15 rfl (by decide) ok92 ⟨rfl,rfl,trivial⟩ (.cons 0 rfl (.refl _)) (F92a_spec et4) ?_
 rintro _ _ ⟨rfl,hs5⟩
 refine .wH [0,4,14,15] hs5 ?_
 refine .a 9 ?_
 obtain⟨b6,q7,h⟩:=ob h
 refine .regM [(5,(.fz 5 (t4.1.map e131))),(18,(eBool b6))] [] ?_ ?_
 ·refine .a 3 ?_
  rcases oi q7 with⟨c8,q7⟩|⟨c8,q7⟩
  ·refine .a 9 ?_
   cases q7
   refine .nilE ⟨rfl,rfl⟩ ?_ ?_
   ·exact⟨rfl,rfl,trivial⟩
   exact(.nil _)
  refine .a 9 ?_
  cases q7
  refine .nilE ⟨rfl,rfl⟩ ?_ ?_
  ·exact⟨rfl,rfl,trivial⟩
  exact(.nil _)
 rcases oi h with⟨c9,h⟩|⟨c9,h⟩
 ·refine .a 5 ?_
  refine .nK [2,3] ?_
  refine .coeC 2 (y':=(Z11 ([]:List S131))) rfl Coe.nil ?_
  refine .rK [2,3] ?_
  cases h
  exact⟨[(Z11 ([]:List S131)),(eI64 (5:Int))],⟨rfl,rfl,rfl,rfl,trivial⟩,rfl⟩
 refine .a 8 ?_
 rcases oi h with⟨c10,h⟩|⟨c10,h⟩
 ·refine .a 5 ?_
  refine .nK [2,3] ?_
  refine .coeC 2 (y':=(Z11 ([]:List S131))) rfl Coe.nil ?_
  refine .rK [2,3] ?_
  cases h
  exact⟨[(Z11 ([]:List S131)),(eI64 (6:Int))],⟨rfl,rfl,rfl,rfl,trivial⟩,rfl⟩
 refine .a 7 ?_
 refine .nK [2,3] ?_
 refine .rK [2,3] ?_
 cases h
 exact⟨[(.fz 5 (t4.1.map e131)),(eI64 (0:Int))],⟨rfl,rfl,rfl,rfl,trivial⟩,rfl⟩
def F93_c0 (k:Nat) (x3:Int):Option Int:=
 if x3≠(1:Int)then some ((5:Int))
 else some ((0:Int))
def F93_l1 (k:Nat) (p0:(List S131)):Nat→Int→Int→Option Int
 | 0,_,_=>none
 | j+1,x5,x6=>
   if x6<(p0.length:Int)then if 0≤x6∧x6<(p0.length:Int)then(F118 k ((lget p0 x6).f0)).bind fun t12=>
   Option.bind (α:=Bool) (if t12<(0:Int)then some (true)
   else if x5<t12 then some (true)
   else(F119 k ((lget p0 x6).f1)).bind fun t17=>
   some (((decide (((lget p0 x6).f0)=(1:Int)))==t17))) fun b13=>
   if b13=true then some ((5:Int))
   else(F93_l1 k p0 j) (w64 (x5+(w64 ((1:Int) -t12)))) (w64 (x6+(1:Int)))
   else none
   else F93_c0 k x5
def F93 (k:Nat) (p0:(List S131)):Option Int:=
 if(400:Int)<(p0.length:Int)then some ((6:Int))
 else F93_l1 k p0 k (0:Int) (0:Int)
theorem F93_spec {k:Nat} {p0:(List S131)} {r:Int} (h:F93 k p0=some r):Spec Try.prog 93 [(.fz 5 (p0.map e131))] (eI64 r):=by
 rw[F93.eq_1]at h
 refine Spec.intro (res:=[.tmp 2]) Try.func93 rfl rfl rfl (Nat.le_of_ble_eq_true rfl) ?_
 refine .a 11 ?_
 rcases oi h with⟨c2,h⟩|⟨c2,h⟩
 ·refine .a 4 ?_
  refine .nK [2] ?_
  refine .rK [2] ?_
  cases h
  exact⟨[(eI64 (6:Int))],⟨rfl,rfl,trivial⟩,rfl⟩
 refine .a 5 ?_
 refine .nK [0,3] ?_
 refine .seq_mid (fun ρ H=>∃ (x3:Int),ρ=[(3,(eI64 x3))]∧H=[]∧F93_c0 k x3=some r) ?_ ?_
 ·refine .a 7 ?_
  refine .wK [3,10,11,12] ?_
  refine .loop (fun kq ρ H=>∃ (x5:Int) (x6:Int),ρ=[(3,(eI64 x5)),(10,(.fz 5 (p0.map e131))),(11,(eI64 (p0.length:Int))),(12,(eI64 x6))]∧H=[]∧F93_l1 k p0 kq x5 x6=some r) k ⟨(0:Int),(0:Int),rfl,rfl,h⟩ ?_
  rintro kq8 _ _ ⟨x5,x6,rfl,rfl,h⟩
  cases kq8 with
  | zero=>rw[F93_l1.eq_1]at h;cases h
  | succ kq8=>
  rw[F93_l1.eq_2]at h
  generalize hrec7:F93_l1 k p0 kq8=rec7 at h
  refine .a 5 ?_
  rcases oi h with⟨c9,h⟩|⟨c9,h⟩
  ·refine .a 6 ?_
   obtain⟨g10,h⟩:=of_guard h
   refine .a 2 ?_
   refine .alloc rfl 5 rfl (by decide) rfl zr131 lay131 fun n11=>?_
   refine .store 0 rfl rfl rfl rfl rfl rfl (.cast .here rfl) rfl rfl sz131 rfl ?_
   refine .a 5 ?_
   obtain⟨t12,et12,h⟩:=ob h
   refine .callS [(eI64 ((lget p0 x6).f0))] (eI64 t12) 18 rfl (by decide) ok118 rfl rfl rfl ⟨rfl,rfl,trivial⟩ (F118_spec et12) ?_
   refine .a 4 ?_
   obtain⟨b13,q14,h⟩:=ob h
   refine .regQM (by rfl) (by decide+kernel) [(3,(eI64 x5)),(6,(eI64 t12)),(10,(.fz 5 (p0.map e131))),(11,(eI64 (p0.length:Int))),(12,(eI64 x6)),(34,(eBool b13))] ?_ ?_
   ·refine .a 3 ?_
    rcases oi q14 with⟨c15,q14⟩|⟨c15,q14⟩
    ·refine .a 13 ?_
     cases q14
     refine .nilE rfl ?_
     exact⟨rfl,rfl,rfl,rfl,rfl,rfl,trivial⟩
    refine .a 5 ?_
    rcases oi q14 with⟨c16,q14⟩|⟨c16,q14⟩
    ·refine .a 8 ?_
     cases q14
     refine .nilE rfl ?_
     exact⟨rfl,rfl,rfl,rfl,rfl,rfl,trivial⟩
    refine .a 5 ?_
    obtain⟨t17,et17,q14⟩:=ob q14
    refine .cG rfl rfl (bD (decide_eq_false c16)) (.call (args:=[(.ar 1 (((lget p0 x6).f1).toList.map eU64))]) rfl rfl ok119 ⟨rfl,rfl,trivial⟩ rfl (F119_spec et17)) ?_
    refine .cG (x:=eBool ((decide (((lget p0 x6).f0)=(1:Int)))==t17)) rfl rfl (bD (decide_eq_false c16)) (.boolEq rfl rfl rfl Try.underlying4) ?_
    refine .a 1 ?_
    cases q14
    refine .nilE rfl ?_
    exact⟨rfl,rfl,rfl,rfl,rfl,rfl,trivial⟩
   rcases oi h with⟨c18,h⟩|⟨c18,h⟩
   ·refine .a 4 ?_
    refine .nS [2] [] ?_
    refine .rK [2] ?_
    cases h
    exact⟨[(eI64 (5:Int))],⟨rfl,rfl,trivial⟩,rfl⟩
   refine .a 1 ?_
   refine .sH [3,6,10,11,12] (H':=[]) (.nil _) ?_
   refine .a 10 ?_
   refine .nK [3,10,11,12] ?_
   exact⟨kq8,Nat.lt_succ_self _,(w64 (x5+(w64 ((1:Int) -t12)))),(w64 (x6+(1:Int))),rfl,rfl,by rw[hrec7];exact h⟩
  refine .a 1 ?_
  refine .eK [3] ?_
  exact⟨x5,rfl,rfl,h⟩
 rintro _ _ ⟨x3,rfl,rfl,h⟩
 rw[F93_c0.eq_1]at h
 refine .a 6 ?_
 rcases oi h with⟨c4,h⟩|⟨c4,h⟩
 ·refine .a 4 ?_
  refine .nK [2] ?_
  refine .rK [2] ?_
  cases h
  exact⟨[(eI64 (5:Int))],⟨rfl,rfl,trivial⟩,rfl⟩
 refine .a 5 ?_
 refine .nK [2] ?_
 refine .rK [2] ?_
 cases h
 exact⟨[(eI64 (0:Int))],⟨rfl,rfl,trivial⟩,rfl⟩
def F134 (k:Nat) (p0:S146):Option (Int×S146):=
 some ((w64 ((w64 (p0.f0.f0+(1:Int))) - (1:Int))),(S146.mk (S121.mk (w64 (p0.f0.f0+(1:Int))) p0.f0.f1 p0.f0.f2 p0.f0.f3)))
theorem F134_spec {k:Nat} {p0:S146} {r:(Int×S146)} (h:F134 k p0=some r) {q0:Nat} {q0_0:Nat} {T0:Heap}:SpecH Try.prog 134 [(.ptr q0 0)] ((q0,(.mem (.st [(4,(.st [(1,(eI64 p0.f0.f0)),(1,(.own q0_0 0 p0.f0.f1.length)),(1,(eI64 p0.f0.f2)),(1,(eI64 p0.f0.f3))]))])))::(q0_0,(.mem (.ar 7 (p0.f0.f1.map e152))))::T0) (fun x H'=>∃ m0_0,x=(eI64 r.1)∧Sub ((q0,(.mem (.st [(4,(.st [(1,(eI64 r.2.f0.f0)),(1,(.own m0_0 0 r.2.f0.f1.length)),(1,(eI64 r.2.f0.f2)),(1,(eI64 r.2.f0.f3))]))])))::(m0_0,(.mem (.ar 7 (r.2.f0.f1.map e152))))::T0) H'):=by
 rw[F134.eq_1]at h
 refine SpecH.intro (res:=[.tmp 2]) Try.func134 rfl rfl rfl (Nat.le_of_ble_eq_true rfl) ?_
 refine .a 15 ?_
 refine .store 0 rfl rfl rfl rfl rfl rfl (.cast (.fld0 (.fld0 .here)) rfl) rfl rfl sz3 rfl ?_
 refine .a 10 ?_
 refine .nK [2] ?_
 refine .rK [2] ?_
 cases h
 exact⟨[(eI64 (w64 ((w64 (p0.f0.f0+(1:Int))) - (1:Int))))],⟨rfl,rfl,trivial⟩,q0_0,rfl,(.cons 0 rfl (.cons 0 rfl (.refl _)))⟩
def F120 (k:Nat) (p0:S146):Option (S150×S146):=
 (F134 k (S146.mk (S121.mk p0.f0.f0 p0.f0.f1 p0.f0.f2 p0.f0.f3))).bind fun t3=>
 (F134 k (S146.mk (S121.mk t3.2.f0.f0 t3.2.f0.f1 t3.2.f0.f2 t3.2.f0.f3))).bind fun t6=>
 some ((S150.mk t3.1 t6.1),(S146.mk (S121.mk t6.2.f0.f0 t6.2.f0.f1 t6.2.f0.f2 t6.2.f0.f3)))
theorem F120_spec {k:Nat} {p0:S146} {r:(S150×S146)} (h:F120 k p0=some r) {q0:Nat} {q0_0:Nat} {T0:Heap}:SpecH Try.prog 120 [(.ptr q0 0)] ((q0,(.mem (.st [(4,(.st [(1,(eI64 p0.f0.f0)),(1,(.own q0_0 0 p0.f0.f1.length)),(1,(eI64 p0.f0.f2)),(1,(eI64 p0.f0.f3))]))])))::(q0_0,(.mem (.ar 7 (p0.f0.f1.map e152))))::T0) (fun x H'=>∃ m0_0,x=(e150 r.1)∧Sub ((q0,(.mem (.st [(4,(.st [(1,(eI64 r.2.f0.f0)),(1,(.own m0_0 0 r.2.f0.f1.length)),(1,(eI64 r.2.f0.f2)),(1,(eI64 r.2.f0.f3))]))])))::(m0_0,(.mem (.ar 7 (r.2.f0.f1.map e152))))::T0) H'):=by
 rw[F120.eq_1]at h
 refine SpecH.intro (res:=[.cell 2 150]) Try.func120 rfl rfl rfl (Nat.le_of_ble_eq_true rfl) ?_
 refine .sr ?_
 refine .alloc rfl 2 rfl (by decide) rfl zr150 lay150 fun n2=>?_
 refine .nH [0,2] (H':=((Z1 q0 p0.f0.f0 q0_0 p0.f0.f1.length p0.f0.f2 p0.f0.f3)::(Z8 q0_0 p0.f0.f1)::(n2,(Z18 (0:Int)))::T0)) (.cons 1 rfl (.cons 1 rfl (.cons 0 rfl (.refl _)))) ?_
 refine .a 3 ?_
 obtain⟨t3,et3,h⟩:=ob h
 refine .callH [(.ptr q0 0)] ((Z1 q0 p0.f0.f0 q0_0 p0.f0.f1.length p0.f0.f2 p0.f0.f3)::(Z8 q0_0 p0.f0.f1)::(n2,(Z18 (0:Int)))::T0) _ rfl rfl rfl 5 rfl (by decide) ok134 ⟨rfl,rfl,trivial⟩ (.cons 0 rfl (.cons 0 rfl (.refl _))) (F134_spec et3) ?_
 rintro _ _ ⟨n5,rfl,hs4⟩
 refine .wH [0,2,4,5] hs4 ?_
 refine .a 6 ?_
 obtain⟨t6,et6,h⟩:=ob h
 refine .callH [(.ptr q0 0)] ((Z1 q0 t3.2.f0.f0 n5 t3.2.f0.f1.length t3.2.f0.f2 t3.2.f0.f3)::(Z8 n5 t3.2.f0.f1)::(n2,(Z18 (0:Int)))::T0) _ rfl rfl rfl 8 rfl (by decide) ok134 ⟨rfl,rfl,trivial⟩ (.cons 0 rfl (.cons 0 rfl (.refl _))) (F134_spec et6) ?_
 rintro _ _ ⟨n8,rfl,hs7⟩
 refine .wH [0,2,3,6,7,8] hs7 ?_
 refine .c (x:=(.st [(1,(eI64 t3.1)),(1,(eI64 t6.1))])) (.build (qs:=[(0,(eI64 t3.1)),(1,(eI64 t6.1))]) rfl ⟨rfl,rfl,rfl,rfl,rfl,rfl,trivial⟩ Try.underlying150 rfl zr150 lay150 (.cons rfl rfl rfl rfl (.cast (.fld0 .here) rfl) (.cons rfl rfl rfl rfl (.cast (.fldS (.fld0 .here)) rfl) .nil)) rfl) ?_
 refine .store 2 rfl rfl rfl rfl rfl rfl (.cast .here rfl) rfl rfl sz150 rfl ?_
 refine .nK [2] ?_
 refine .rK [2] ?_
 cases h
 exact⟨[(e150 (S150.mk t3.1 t6.1))],⟨⟨_,2,rfl,rfl,ag150,sz150⟩,trivial⟩,n8,rfl,(.cons 0 rfl (.cons 0 rfl (.drop (.refl _))))⟩
def F121 (k:Nat) (p0:S146) (p1:Int) (p2:Int):Option S146:=
 if(p0.f0.f1++([(S152.mk p1 p2 (Vector.replicate 4 (0:Int)) true)]:List S152)).length*56≤140737488355328 then some ((S146.mk (S121.mk p0.f0.f0 (p0.f0.f1++([(S152.mk p1 p2 (Vector.replicate 4 (0:Int)) true)]:List S152)) p0.f0.f2 p0.f0.f3)))
 else none
theorem F121_spec {k:Nat} {p0:S146} {p1:Int} {p2:Int} {r:S146} (h:F121 k p0 p1 p2=some r) {q0:Nat} {q0_0:Nat} {T0:Heap}:SpecH Try.prog 121 [(.ptr q0 0),(eI64 p1),(eI64 p2)] ((q0,(.mem (.st [(4,(.st [(1,(eI64 p0.f0.f0)),(1,(.own q0_0 0 p0.f0.f1.length)),(1,(eI64 p0.f0.f2)),(1,(eI64 p0.f0.f3))]))])))::(q0_0,(.mem (.ar 7 (p0.f0.f1.map e152))))::T0) (fun x H'=>∃ m0_0,x=.tup []∧Sub ((q0,(.mem (.st [(4,(.st [(1,(eI64 r.f0.f0)),(1,(.own m0_0 0 r.f0.f1.length)),(1,(eI64 r.f0.f2)),(1,(eI64 r.f0.f3))]))])))::(m0_0,(.mem (.ar 7 (r.f0.f1.map e152))))::T0) H'):=by
 rw[F121.eq_1]at h
 refine SpecH.intro (res:=[]) Try.func121 rfl rfl rfl (Nat.le_of_ble_eq_true rfl) ?_
 refine .a 9 ?_
 refine .c (x:=(Z27 p1 p2 ((Vector.replicate 4 (0:Int)).toList.map eU64) true)) (.build (qs:=[(0,(eI64 p1)),(1,(eI64 p2)),(3,(eBool true))]) rfl ⟨rfl,rfl,rfl,rfl,rfl,rfl,rfl,rfl,rfl,trivial⟩ Try.underlying152 rfl zr152 lay152 (.cons rfl rfl rfl rfl (.cast (.fld0 .here) rfl) (.cons rfl rfl rfl rfl (.cast (.fldS (.fld0 .here)) rfl) (.cons rfl rfl rfl rfl (.cast (.fldS (.fldS (.fldS (.fld0 .here)))) rfl) .nil))) rfl) ?_
 refine .lit (Z:=(Z27 (0:Int) (0:Int) ((Vector.replicate 4 (0:Int)).toList.map eU64) false)) (xs:=(([(S152.mk p1 p2 (Vector.replicate 4 (0:Int)) true)]:List S152).map e152)) (qs:=[(0,(e152 (S152.mk p1 p2 (Vector.replicate 4 (0:Int)) true)))]) rfl 15 rfl (by decide) rfl ⟨rfl,rfl,rfl,trivial⟩ Try.underlying119 sz152 zr152 lay152 rfl (by decide) (litOK (z:=7) [(e152 (S152.mk p1 p2 (Vector.replicate 4 (0:Int)) true))] rfl ⟨⟨rfl,rfl⟩,trivial⟩) rfl fun n4=>?_
 obtain⟨g6,h⟩:=of_guard h
 refine .appendL (l:=p0.f0.f1) (m:=([(S152.mk p1 p2 (Vector.replicate 4 (0:Int)) true)]:List S152)) 2 16 rfl (by decide) rfl rfl rfl rfl rfl (Src.ownL (f:=e152) (l:=([(S152.mk p1 p2 (Vector.replicate 4 (0:Int)) true)]:List S152)) 0 rfl) Try.underlying119 Try.underlying119 sz152 by152 zr152 rfl g6 (by decide) fun n5=>?_
 refine .a 3 ?_
 refine .store 1 rfl rfl rfl rfl rfl rfl (.cast (.fld0 (.fldS (.fld0 .here))) rfl) rfl rfl sz119 rfl ?_
 refine .nH [] (H':=((Z1 q0 p0.f0.f0 n5 (p0.f0.f1++([(S152.mk p1 p2 (Vector.replicate 4 (0:Int)) true)]:List S152)).length p0.f0.f2 p0.f0.f3)::(Z8 n5 (p0.f0.f1++([(S152.mk p1 p2 (Vector.replicate 4 (0:Int)) true)]:List S152)))::T0)) (.cons 1 rfl (.cons 1 rfl (.drop (.refl _)))) ?_
 cases h
 exact⟨[],trivial,n5,rfl,(.cons 0 rfl (.cons 0 rfl (.refl _)))⟩
end Go.Avl.T7
namespace Go.Avl.T7
open Go Go.RowKit Go.Proofs Go.Avl
set_option linter.unusedVariables false
set_option maxRecDepth 100000
set_option maxHeartbeats 4000000
set_option linter.unusedSimpArgs false
attribute [local irreducible] AW AO AQ Spec SpecH Calm
def F94_c0 (k:Nat) (p1:S131) (p2:(List S150)) (t5:(S150×S146)) (x9:Int) (x11:(List S152)) (x12:Int) (x13:Int):Option ((List S150)×S146):=
 (F118 k p1.f0).bind fun t14=>
 if 0≤(w64 ((p2.length:Int) -t14))∧(w64 ((p2.length:Int) -t14))≤(p2.length:Int)then if(p2.take ((w64 ((p2.length:Int) -t14)).toNat)++([t5.1]:List S150)).length*16≤140737488355328 then some ((p2.take ((w64 ((p2.length:Int) -t14)).toNat)++([t5.1]:List S150)),(S146.mk (S121.mk x9 x11 x12 x13)))
 else none
 else none
def F94_l1 (k:Nat) (p1:S131) (p2:(List S150)) (t5:(S150×S146)):Nat→Int→(List S152)→Int→Int→Int→Option ((List S150)×S146)
 | 0,_,_,_,_,_=>none
 | j+1,x43,x45,x46,x47,x48=>
   if x48<(((p2.length - (w64 ((p2.length:Int) - (2:Int))).toNat):Nat):Int)then if 0≤x48∧x48<(((p2.length - (w64 ((p2.length:Int) - (2:Int))).toNat):Nat):Int)then(F121 k (S146.mk (S121.mk x43 x45 x46 x47)) t5.1.f0 ((lget p2 ((w64 ((p2.length:Int) - (2:Int)))+x48)).f0)).bind fun t55=>
   (F121 k (S146.mk (S121.mk t55.f0.f0 t55.f0.f1 t55.f0.f2 t55.f0.f3)) ((lget p2 ((w64 ((p2.length:Int) - (2:Int)))+x48)).f1) t5.1.f1).bind fun t58=>
   (F94_l1 k p1 p2 t5 j) t58.f0.f0 t58.f0.f1 t58.f0.f2 t58.f0.f3 (w64 (x48+(1:Int)))
   else none
   else F94_c0 k p1 p2 t5 x43 x45 x46 x47
def F94_c2 (k:Nat) (p1:S131) (p2:(List S150)) (t5:(S150×S146)) (x69:Int) (x71:(List S152)) (x72:Int) (x73:Int):Option ((List S150)×S146):=
 if p1.f0≠(5:Int)then(F121 k (S146.mk (S121.mk x69 x71 x72 x73)) t5.1.f0 t5.1.f1).bind fun t75=>
 F94_c0 k p1 p2 t5 t75.f0.f0 t75.f0.f1 t75.f0.f2 t75.f0.f3
 else F94_c0 k p1 p2 t5 x69 x71 x72 x73
def F94 (k:Nat) (p0:S146) (p1:S131) (p2:(List S150)):Option ((List S150)×S146):=
 (F120 k (S146.mk (S121.mk p0.f0.f0 p0.f0.f1 p0.f0.f2 p0.f0.f3))).bind fun t5=>
 if p1.f0=(0:Int)then(F121 k (S146.mk (S121.mk t5.2.f0.f0 t5.2.f0.f1 t5.2.f0.f2 t5.2.f0.f3)) t5.1.f0 t5.1.f1).bind fun t20=>
 F94_c0 k p1 p2 t5 t20.f0.f0 t20.f0.f1 t20.f0.f2 t20.f0.f3
 else if p1.f0=(1:Int)then if(t5.2.f0.f1++([(S152.mk t5.1.f0 t5.1.f1 p1.f1 false)]:List S152)).length*56≤140737488355328 then F94_c0 k p1 p2 t5 t5.2.f0.f0 (t5.2.f0.f1++([(S152.mk t5.1.f0 t5.1.f1 p1.f1 false)]:List S152)) t5.2.f0.f2 t5.2.f0.f3
 else none
 else if p1.f0=(2:Int)then if 0≤(w64 ((p2.length:Int) - (2:Int)))∧(w64 ((p2.length:Int) - (2:Int)))<(p2.length:Int)then if 0≤(w64 ((p2.length:Int) - (1:Int)))∧(w64 ((p2.length:Int) - (1:Int)))<(p2.length:Int)then(F121 k (S146.mk (S121.mk t5.2.f0.f0 t5.2.f0.f1 t5.2.f0.f2 t5.2.f0.f3)) t5.1.f0 ((lget p2 (w64 ((p2.length:Int) - (2:Int)))).f0)).bind fun t32=>
 (F121 k (S146.mk (S121.mk t32.f0.f0 t32.f0.f1 t32.f0.f2 t32.f0.f3)) ((lget p2 (w64 ((p2.length:Int) - (2:Int)))).f1) ((lget p2 (w64 ((p2.length:Int) - (1:Int)))).f0)).bind fun t35=>
 (F121 k (S146.mk (S121.mk t35.f0.f0 t35.f0.f1 t35.f0.f2 t35.f0.f3)) ((lget p2 (w64 ((p2.length:Int) - (1:Int)))).f1) t5.1.f1).bind fun t38=>
 F94_c0 k p1 p2 t5 t38.f0.f0 t38.f0.f1 t38.f0.f2 t38.f0.f3
 else none
 else none
 else if p1.f0=(3:Int)then if 0≤(w64 ((p2.length:Int) - (2:Int)))∧(w64 ((p2.length:Int) - (2:Int)))≤(p2.length:Int)then F94_l1 k p1 p2 t5 k t5.2.f0.f0 t5.2.f0.f1 t5.2.f0.f2 t5.2.f0.f3 (0:Int)
 else none
 else if 0≤(w64 ((p2.length:Int) - (1:Int)))∧(w64 ((p2.length:Int) - (1:Int)))<(p2.length:Int)then(F121 k (S146.mk (S121.mk t5.2.f0.f0 t5.2.f0.f1 t5.2.f0.f2 t5.2.f0.f3)) t5.1.f0 ((lget p2 (w64 ((p2.length:Int) - (1:Int)))).f0)).bind fun t63=>
 (F121 k (S146.mk (S121.mk t63.f0.f0 t63.f0.f1 t63.f0.f2 t63.f0.f3)) ((lget p2 (w64 ((p2.length:Int) - (1:Int)))).f1) t5.1.f1).bind fun t66=>
 if p1.f0≠(6:Int)then(F121 k (S146.mk (S121.mk t66.f0.f0 t66.f0.f1 t66.f0.f2 t66.f0.f3)) ((lget p2 (w64 ((p2.length:Int) - (1:Int)))).f1) ((lget p2 (w64 ((p2.length:Int) - (1:Int)))).f0)).bind fun t79=>
 F94_c2 k p1 p2 t5 t79.f0.f0 t79.f0.f1 t79.f0.f2 t79.f0.f3
 else F94_c2 k p1 p2 t5 t66.f0.f0 t66.f0.f1 t66.f0.f2 t66.f0.f3
 else none
theorem F94_spec {k:Nat} {p0:S146} {p1:S131} {p2:(List S150)} {r:((List S150)×S146)} (h:F94 k p0 p1 p2=some r) {q0:Nat} {q0_0:Nat} {q2:Nat} {T0:Heap}:SpecH Try.prog 94 [(.ptr q0 0),(e131 p1),(.own q2 0 p2.length)] ((q0,(.mem (.st [(4,(.st [(1,(eI64 p0.f0.f0)),(1,(.own q0_0 0 p0.f0.f1.length)),(1,(eI64 p0.f0.f2)),(1,(eI64 p0.f0.f3))]))])))::(q0_0,(.mem (.ar 7 (p0.f0.f1.map e152))))::(q2,.mem (.ar 2 (p2.map e150)))::T0) (fun x H'=>∃ m m0_0,x=.own m 0 r.1.length∧Sub ((m,.mem (.ar 2 (r.1.map e150)))::(q0,(.mem (.st [(4,(.st [(1,(eI64 r.2.f0.f0)),(1,(.own m0_0 0 r.2.f0.f1.length)),(1,(eI64 r.2.f0.f2)),(1,(eI64 r.2.f0.f3))]))])))::(m0_0,(.mem (.ar 7 (r.2.f0.f1.map e152))))::T0) H'):=by
 rw[F94.eq_1]at h
 refine SpecH.intro (res:=[.tmp 6]) Try.func94 rfl rfl rfl (Nat.le_of_ble_eq_true rfl) ?_
 refine .sr ?_
 refine .box rfl 4 rfl (by decide) rfl rfl rfl fun n4=>?_
 refine .a 1 ?_
 refine .nH [0,2,4] (H':=((Z1 q0 p0.f0.f0 q0_0 p0.f0.f1.length p0.f0.f2 p0.f0.f3)::(Z8 q0_0 p0.f0.f1)::(Z10 q2 p2)::(n4,(.mem (e131 p1)))::T0)) (.cons 1 rfl (.cons 1 rfl (.cons 1 rfl (.cons 0 rfl (.refl _))))) ?_
 refine .a 9 ?_
 obtain⟨t5,et5,h⟩:=ob h
 refine .callH [(.ptr q0 0)] ((Z1 q0 p0.f0.f0 q0_0 p0.f0.f1.length p0.f0.f2 p0.f0.f3)::(Z8 q0_0 p0.f0.f1)::(Z10 q2 p2)::(n4,(.mem (e131 p1)))::T0) _ rfl rfl rfl 17 rfl (by decide) ok120 ⟨rfl,rfl,trivial⟩ (.cons 0 rfl (.cons 0 rfl (.refl _))) (F120_spec et5) ?_
 rintro _ _ ⟨n7,rfl,hs6⟩
 refine .wH [0,2,4,7,16,17] hs6 ?_
 refine .alloc rfl 8 rfl (by decide) rfl zr150 lay150 fun n8=>?_
 refine .store 0 rfl rfl rfl rfl rfl rfl (.cast .here rfl) rfl rfl sz150 rfl ?_
 refine .nH [0,2,4,7,8] (H':=((Z1 q0 t5.2.f0.f0 n7 t5.2.f0.f1.length t5.2.f0.f2 t5.2.f0.f3)::(Z8 n7 t5.2.f0.f1)::(Z10 q2 p2)::(n4,(.mem (e131 p1)))::(Z19 n8 t5.1)::T0)) (.cons 1 rfl (.cons 1 rfl (.cons 1 rfl (.cons 1 rfl (.cons 0 rfl (.refl _)))))) ?_
 refine .seq_mid (fun ρ H=>∃ (n10:Nat) (x9:Int) (x11:(List S152)) (x12:Int) (x13:Int),ρ=[(2,(.own q2 0 p2.length)),(4,(.ptr n4 0)),(7,(eI64 (p2.length:Int))),(8,(.ptr n8 0))]∧H=((Z1 q0 x9 n10 x11.length x12 x13)::(Z8 n10 x11)::(Z10 q2 p2)::(n4,(.mem (e131 p1)))::(Z19 n8 t5.1)::T0)∧F94_c0 k p1 p2 t5 x9 x11 x12 x13=some r) ?_ ?_
 ·refine .a 11 ?_
  rcases oi h with⟨c19,h⟩|⟨c19,h⟩
  ·refine .a 7 ?_
   obtain⟨t20,et20,h⟩:=ob h
   refine .callH [(.ptr q0 0),(eI64 t5.1.f0),(eI64 t5.1.f1)] ((Z1 q0 t5.2.f0.f0 n7 t5.2.f0.f1.length t5.2.f0.f2 t5.2.f0.f3)::(Z8 n7 t5.2.f0.f1)::(Z10 q2 p2)::(n4,(.mem (e131 p1)))::(Z19 n8 t5.1)::T0) _ rfl rfl rfl 62 rfl (by decide) ok121 ⟨rfl,rfl,rfl,rfl,rfl,rfl,trivial⟩ (.cons 0 rfl (.cons 0 rfl (.refl _))) (F121_spec et20) ?_
   rintro _ _ ⟨n22,rfl,hs21⟩
   refine .wH [0,2,4,7,8,19,55,57,58,59,60,61,62] hs21 ?_
   refine .nK [2,4,7,8] ?_
   exact⟨n22,t20.f0.f0,t20.f0.f1,t20.f0.f2,t20.f0.f3,rfl,rfl,h⟩
  refine .a 6 ?_
  rcases oi h with⟨c23,h⟩|⟨c23,h⟩
  ·refine .a 1 ?_
   obtain⟨g26,h⟩:=of_guard h
   refine .regEff (by rfl) (by decide+kernel) (fun (σ:Nat→Nat)=>([(.ptr q0 0),(.ptr q0 0),(.ptr q0 0),(.ptr q0 0),(.ptr q0 1),(Z28 n7 t5.2.f0.f1.length),(.ptr n8 0),(eI64 t5.1.f0),(.ptr n8 1),(eI64 t5.1.f1),(.ptr n4 1),(.ar 1 (p1.f1.toList.map eU64)),(e152 (S152.mk t5.1.f0 t5.1.f1 p1.f1 false)),(.fz 7 (([(S152.mk t5.1.f0 t5.1.f1 p1.f1 false)]:List S152).map e152)),(Z28 (σ 14) (t5.2.f0.f1++([(S152.mk t5.1.f0 t5.1.f1 p1.f1 false)]:List S152)).length),(.ptr q0 0),(.ptr q0 0),(.ptr q0 1),(.fl undef)]:List AV)) (fun (L:Nat→Bool) (σ:Nat→Nat)=>((Z10 q2 p2)::(n4,(.mem (e131 p1)))::(Z19 n8 t5.1)::(bif L 14 then(bif L 18 then((Z1 q0 t5.2.f0.f0 (σ 14) (t5.2.f0.f1++([(S152.mk t5.1.f0 t5.1.f1 p1.f1 false)]:List S152)).length t5.2.f0.f2 t5.2.f0.f3)::((σ 14),(.mem (.ar 7 ((t5.2.f0.f1++([(S152.mk t5.1.f0 t5.1.f1 p1.f1 false)]:List S152)).map e152))))::T0)else((Z1 q0 t5.2.f0.f0 n7 t5.2.f0.f1.length t5.2.f0.f2 t5.2.f0.f3)::((σ 14),(.mem (.ar 7 ((t5.2.f0.f1++([(S152.mk t5.1.f0 t5.1.f1 p1.f1 false)]:List S152)).map e152))))::T0))else((Z1 q0 t5.2.f0.f0 n7 t5.2.f0.f1.length t5.2.f0.f2 t5.2.f0.f3)::(Z8 n7 t5.2.f0.f1)::T0)):Heap)) [(0,(.ptr q0 0)),(2,(.own q2 0 p2.length)),(4,(.ptr n4 0)),(7,(eI64 (p2.length:Int))),(8,(.ptr n8 0))] ⟨rfl,rfl,rfl,rfl,rfl,trivial⟩ (fun _=>rfl) (fun σ=>(.cons 2 rfl (.cons 2 rfl (.cons 2 rfl (.cons 0 rfl (.cons 0 rfl (.refl _))))))) ⟨?_,?_,?_,?_,?_,?_,?_,?_,?_,?_,?_,?_,?_,?_,?_,?_,?_,?_,?_,trivial⟩ (fun σ=>[(2,(.own q2 0 p2.length)),(4,(.ptr n4 0)),(7,(eI64 (p2.length:Int))),(8,(.ptr n8 0))]) (fun σ=>((Z10 q2 p2)::(n4,(.mem (e131 p1)))::(Z19 n8 t5.1)::(Z1 q0 t5.2.f0.f0 (σ 14) (t5.2.f0.f1++([(S152.mk t5.1.f0 t5.1.f1 p1.f1 false)]:List S152)).length t5.2.f0.f2 t5.2.f0.f3)::((σ 14),(.mem (.ar 7 ((t5.2.f0.f1++([(S152.mk t5.1.f0 t5.1.f1 p1.f1 false)]:List S152)).map e152))))::T0)) (fun σ=>⟨rfl,rfl,rfl,rfl,trivial⟩) (fun σ=>.refl _) (fun σ=>?_)
   ·refine .calm (fun _ _=>rfl) fun L σ hc hi hd=>?_
    have m18:L 18=false:=hc.neg (i:=0) (j:=18) rfl (by rfl) hi
    cases b14:L 14 with
    | true=>
      refine .heq (H':=((Z10 q2 p2)::(n4,(.mem (e131 p1)))::(Z19 n8 t5.1)::(Z1 q0 t5.2.f0.f0 n7 t5.2.f0.f1.length t5.2.f0.f2 t5.2.f0.f3)::((σ 14),(.mem (.ar 7 ((t5.2.f0.f1++([(S152.mk t5.1.f0 t5.1.f1 p1.f1 false)]:List S152)).map e152))))::T0)) (by first|rfl|simp only[b14,m18,cond_true,cond_false]) ?_
      refine .a 1 ?_
      exact .nE (d:=65) rfl ⟨⟨65,_,rfl,rfl,rfl⟩,.of_eq (by first|rfl|simp only[b14,m18,cond_true,cond_false]) (.refl _)⟩
    | false=>
      refine .heq (H':=((Z10 q2 p2)::(n4,(.mem (e131 p1)))::(Z19 n8 t5.1)::(Z1 q0 t5.2.f0.f0 n7 t5.2.f0.f1.length t5.2.f0.f2 t5.2.f0.f3)::(Z8 n7 t5.2.f0.f1)::T0)) (by first|rfl|simp only[b14,m18,cond_true,cond_false]) ?_
      refine .a 1 ?_
      exact .nE (d:=65) rfl ⟨⟨65,_,rfl,rfl,rfl⟩,.of_eq (by first|rfl|simp only[b14,m18,cond_true,cond_false]) (.refl _)⟩
   ·refine .calm (fun _ _=>rfl) fun L σ hc hi hd=>?_
    have m2:L 2=false:=hc.neg (i:=1) (j:=2) rfl (by rfl) hi
    have m3:L 3=false:=hc.neg (i:=2) (j:=3) rfl (by rfl) m2
    have m4:L 4=false:=hc.neg (i:=3) (j:=4) rfl (by rfl) m3
    have m5:L 5=false:=hc.neg (i:=4) (j:=5) rfl (by rfl) m4
    have m14:L 14=false:=hc.neg (i:=5) (j:=14) rfl (by rfl) m5
    have m18:L 18=false:=hc.neg (i:=1) (j:=18) rfl (by rfl) hi
    refine .heq (H':=((Z10 q2 p2)::(n4,(.mem (e131 p1)))::(Z19 n8 t5.1)::(Z1 q0 t5.2.f0.f0 n7 t5.2.f0.f1.length t5.2.f0.f2 t5.2.f0.f3)::(Z8 n7 t5.2.f0.f1)::T0)) (by first|rfl|simp only[m14,m18,cond_true,cond_false]) ?_
    refine .a 1 ?_
    exact .nE (d:=66) rfl ⟨⟨66,_,rfl,rfl,rfl⟩,.of_eq (by first|rfl|simp only[m14,m18,cond_true,cond_false]) (.refl _)⟩
   ·refine .calm (fun _ _=>rfl) fun L σ hc hi hd=>?_
    have m3:L 3=false:=hc.neg (i:=2) (j:=3) rfl (by rfl) hi
    have m4:L 4=false:=hc.neg (i:=3) (j:=4) rfl (by rfl) m3
    have m5:L 5=false:=hc.neg (i:=4) (j:=5) rfl (by rfl) m4
    have m14:L 14=false:=hc.neg (i:=5) (j:=14) rfl (by rfl) m5
    have m18:L 18=false:=hc.neg (i:=2) (j:=18) rfl (by rfl) hi
    refine .heq (H':=((Z10 q2 p2)::(n4,(.mem (e131 p1)))::(Z19 n8 t5.1)::(Z1 q0 t5.2.f0.f0 n7 t5.2.f0.f1.length t5.2.f0.f2 t5.2.f0.f3)::(Z8 n7 t5.2.f0.f1)::T0)) (by first|rfl|simp only[m14,m18,cond_true,cond_false]) ?_
    refine .a 1 ?_
    exact .nE (d:=67) rfl ⟨⟨67,_,rfl,rfl,rfl⟩,.of_eq (by first|rfl|simp only[m14,m18,cond_true,cond_false]) (.refl _)⟩
   ·refine .calm (fun _ _=>rfl) fun L σ hc hi hd=>?_
    have m4:L 4=false:=hc.neg (i:=3) (j:=4) rfl (by rfl) hi
    have m5:L 5=false:=hc.neg (i:=4) (j:=5) rfl (by rfl) m4
    have m14:L 14=false:=hc.neg (i:=5) (j:=14) rfl (by rfl) m5
    have m18:L 18=false:=hc.neg (i:=3) (j:=18) rfl (by rfl) hi
    refine .heq (H':=((Z10 q2 p2)::(n4,(.mem (e131 p1)))::(Z19 n8 t5.1)::(Z1 q0 t5.2.f0.f0 n7 t5.2.f0.f1.length t5.2.f0.f2 t5.2.f0.f3)::(Z8 n7 t5.2.f0.f1)::T0)) (by first|rfl|simp only[m14,m18,cond_true,cond_false]) ?_
    refine .a 1 ?_
    exact .nE (d:=68) rfl ⟨⟨68,_,rfl,rfl,rfl⟩,.of_eq (by first|rfl|simp only[m14,m18,cond_true,cond_false]) (.refl _)⟩
   ·refine .calm (fun _ _=>rfl) fun L σ hc hi hd=>?_
    have m5:L 5=false:=hc.neg (i:=4) (j:=5) rfl (by rfl) hi
    have m14:L 14=false:=hc.neg (i:=5) (j:=14) rfl (by rfl) m5
    have m18:L 18=false:=hc.neg (i:=4) (j:=18) rfl (by rfl) hi
    refine .heq (H':=((Z10 q2 p2)::(n4,(.mem (e131 p1)))::(Z19 n8 t5.1)::(Z1 q0 t5.2.f0.f0 n7 t5.2.f0.f1.length t5.2.f0.f2 t5.2.f0.f3)::(Z8 n7 t5.2.f0.f1)::T0)) (by first|rfl|simp only[m14,m18,cond_true,cond_false]) ?_
    refine .a 1 ?_
    exact .nE (d:=69) rfl ⟨⟨69,_,rfl,rfl,rfl⟩,.of_eq (by first|rfl|simp only[m14,m18,cond_true,cond_false]) (.refl _)⟩
   ·refine .calm (fun _ _=>rfl) fun L σ hc hi hd=>?_
    have m14:L 14=false:=hc.neg (i:=5) (j:=14) rfl (by rfl) hi
    have m18:L 18=false:=hc.neg (i:=5) (j:=18) rfl (by rfl) hi
    refine .heq (H':=((Z10 q2 p2)::(n4,(.mem (e131 p1)))::(Z19 n8 t5.1)::(Z1 q0 t5.2.f0.f0 n7 t5.2.f0.f1.length t5.2.f0.f2 t5.2.f0.f3)::(Z8 n7 t5.2.f0.f1)::T0)) (by first|rfl|simp only[m14,m18,cond_true,cond_false]) ?_
    refine .a 1 ?_
    exact .nE (d:=70) rfl ⟨⟨70,_,rfl,rfl,rfl⟩,.of_eq (by first|rfl|simp only[m14,m18,cond_true,cond_false]) (.refl _)⟩
   ·refine .calm (fun _ _=>rfl) fun L σ hc hi hd=>?_
    refine .a 1 ?_
    exact .nE (d:=71) rfl ⟨⟨71,_,rfl,rfl,rfl⟩,.refl _⟩
   ·refine .calm (fun _ _=>rfl) fun L σ hc hi hd=>?_
    refine .a 1 ?_
    exact .nE (d:=72) rfl ⟨⟨72,_,rfl,rfl,rfl⟩,.refl _⟩
   ·refine .calm (fun _ _=>rfl) fun L σ hc hi hd=>?_
    refine .a 1 ?_
    exact .nE (d:=73) rfl ⟨⟨73,_,rfl,rfl,rfl⟩,.refl _⟩
   ·refine .calm (fun _ _=>rfl) fun L σ hc hi hd=>?_
    refine .a 1 ?_
    exact .nE (d:=74) rfl ⟨⟨74,_,rfl,rfl,rfl⟩,.refl _⟩
   ·refine .calm (fun _ _=>rfl) fun L σ hc hi hd=>?_
    refine .a 1 ?_
    exact .nE (d:=75) rfl ⟨⟨75,_,rfl,rfl,rfl⟩,.refl _⟩
   ·refine .calm (fun _ _=>rfl) fun L σ hc hi hd=>?_
    refine .a 1 ?_
    exact .nE (d:=76) rfl ⟨⟨76,_,rfl,rfl,rfl⟩,.refl _⟩
   ·refine .calm (fun _ _=>rfl) fun L σ hc hi hd=>?_
    refine .wK [72,74,76] ?_
    refine .c (x:=(Z27 t5.1.f0 t5.1.f1 (p1.f1.toList.map eU64) false)) (.build (qs:=[(0,(eI64 t5.1.f0)),(1,(eI64 t5.1.f1)),(2,(.ar 1 (p1.f1.toList.map eU64)))]) rfl ⟨rfl,rfl,rfl,rfl,rfl,rfl,rfl,rfl,rfl,trivial⟩ Try.underlying152 rfl zr152 lay152 (.cons rfl rfl rfl rfl (.cast (.fld0 .here) rfl) (.cons rfl rfl rfl rfl (.cast (.fldS (.fld0 .here)) rfl) (.cons rfl rfl (vec_size _ _) (vec_size _ _) (.cast (.fldS (.fldS (.fld0 .here))) rfl) .nil))) rfl) ?_
    exact .nE (d:=77) rfl ⟨⟨77,_,rfl,rfl,rfl⟩,.refl _⟩
   ·refine .calm (fun _ _=>rfl) fun L σ hc hi hd=>?_
    refine .wK [77] ?_
    refine .lit (Z:=(Z27 (0:Int) (0:Int) ((Vector.replicate 4 (0:Int)).toList.map eU64) false)) (xs:=(([(S152.mk t5.1.f0 t5.1.f1 p1.f1 false)]:List S152).map e152)) (qs:=[(0,(e152 (S152.mk t5.1.f0 t5.1.f1 p1.f1 false)))]) rfl 78 rfl (by decide) rfl ⟨rfl,rfl,rfl,trivial⟩ Try.underlying119 sz152 zr152 lay152 rfl (by decide) (litOK (z:=7) [(e152 (S152.mk t5.1.f0 t5.1.f1 p1.f1 false))] rfl ⟨⟨rfl,rfl⟩,trivial⟩) rfl fun n24=>?_
    refine .freezeS 0 [(78,(.fz 7 (([(S152.mk t5.1.f0 t5.1.f1 p1.f1 false)]:List S152).map e152)))] rfl ⟨fz_all rfl,trivial⟩ ?_
    exact .nE (d:=78) rfl ⟨⟨78,_,rfl,rfl,rfl⟩,.refl _⟩
   ·intro L σ hc hi hd
    have m18:L 18=false:=hc.neg (i:=14) (j:=18) rfl (by rfl) hi
    refine .heq (H':=((Z10 q2 p2)::(n4,(.mem (e131 p1)))::(Z19 n8 t5.1)::(Z1 q0 t5.2.f0.f0 n7 t5.2.f0.f1.length t5.2.f0.f2 t5.2.f0.f3)::(Z8 n7 t5.2.f0.f1)::T0)) (by first|rfl|simp only[hi,m18,cond_true,cond_false]) ?_
    refine .wK [70,78] ?_
    refine .appendL (l:=t5.2.f0.f1) (m:=([(S152.mk t5.1.f0 t5.1.f1 p1.f1 false)]:List S152)) 4 79 rfl (by decide) rfl rfl rfl rfl rfl Src.fz Try.underlying119 Try.underlying119 sz152 by152 zr152 rfl g26 (by decide) fun n25=>?_
    have a14:addL L 14 14=true:=rfl
    have a18:addL L 14 18=false:=m18
    have u14:upd σ 14 n25 14=n25:=rfl
    exact .nE (d:=79) rfl ⟨(upd σ 14 n25),(fun j hj=>match j,hj with |0,_=>rfl|1,_=>rfl|2,_=>rfl|3,_=>rfl|4,_=>rfl|5,_=>rfl|6,_=>rfl|7,_=>rfl|8,_=>rfl|9,_=>rfl|10,_=>rfl|11,_=>rfl|12,_=>rfl|13,_=>rfl|14,hj=>Bool.noConfusion (hj.symm.trans hi)|15,_=>rfl|16,_=>rfl|17,_=>rfl|18,_=>rfl|_+19,_=>rfl),(fun d' hd'=>⟨_,rfl,by cases hd';rfl⟩),.of_eq (B:=((Z10 q2 p2)::(n4,(.mem (e131 p1)))::(Z19 n8 t5.1)::(Z1 q0 t5.2.f0.f0 n7 t5.2.f0.f1.length t5.2.f0.f2 t5.2.f0.f3)::(Z8 n25 (t5.2.f0.f1++([(S152.mk t5.1.f0 t5.1.f1 p1.f1 false)]:List S152)))::T0)) (by simp only[a14,a18,u14,cond_true,cond_false]) (.refl _)⟩
   ·refine .calm (fun _ _=>rfl) fun L σ hc hi hd=>?_
    have y14:L 14=true:=on_get hd (i:=14) (by rfl)
    have m16:L 16=false:=hc.neg (i:=15) (j:=16) rfl (by rfl) hi
    have m17:L 17=false:=hc.neg (i:=16) (j:=17) rfl (by rfl) m16
    have m18:L 18=false:=hc.neg (i:=17) (j:=18) rfl (by rfl) m17
    refine .heq (H':=((Z10 q2 p2)::(n4,(.mem (e131 p1)))::(Z19 n8 t5.1)::(Z1 q0 t5.2.f0.f0 n7 t5.2.f0.f1.length t5.2.f0.f2 t5.2.f0.f3)::((σ 14),(.mem (.ar 7 ((t5.2.f0.f1++([(S152.mk t5.1.f0 t5.1.f1 p1.f1 false)]:List S152)).map e152))))::T0)) (by first|rfl|simp only[y14,m18,cond_true,cond_false]) ?_
    refine .a 1 ?_
    exact .nE (d:=80) rfl ⟨⟨80,_,rfl,rfl,rfl⟩,.of_eq (by first|rfl|simp only[y14,m18,cond_true,cond_false]) (.refl _)⟩
   ·refine .calm (fun _ _=>rfl) fun L σ hc hi hd=>?_
    have y14:L 14=true:=on_get hd (i:=14) (by rfl)
    have m17:L 17=false:=hc.neg (i:=16) (j:=17) rfl (by rfl) hi
    have m18:L 18=false:=hc.neg (i:=17) (j:=18) rfl (by rfl) m17
    refine .heq (H':=((Z10 q2 p2)::(n4,(.mem (e131 p1)))::(Z19 n8 t5.1)::(Z1 q0 t5.2.f0.f0 n7 t5.2.f0.f1.length t5.2.f0.f2 t5.2.f0.f3)::((σ 14),(.mem (.ar 7 ((t5.2.f0.f1++([(S152.mk t5.1.f0 t5.1.f1 p1.f1 false)]:List S152)).map e152))))::T0)) (by first|rfl|simp only[y14,m18,cond_true,cond_false]) ?_
    refine .a 1 ?_
    exact .nE (d:=81) rfl ⟨⟨81,_,rfl,rfl,rfl⟩,.of_eq (by first|rfl|simp only[y14,m18,cond_true,cond_false]) (.refl _)⟩
   ·refine .calm (fun _ _=>rfl) fun L σ hc hi hd=>?_
    have y14:L 14=true:=on_get hd (i:=14) (by rfl)
    have m18:L 18=false:=hc.neg (i:=17) (j:=18) rfl (by rfl) hi
    refine .heq (H':=((Z10 q2 p2)::(n4,(.mem (e131 p1)))::(Z19 n8 t5.1)::(Z1 q0 t5.2.f0.f0 n7 t5.2.f0.f1.length t5.2.f0.f2 t5.2.f0.f3)::((σ 14),(.mem (.ar 7 ((t5.2.f0.f1++([(S152.mk t5.1.f0 t5.1.f1 p1.f1 false)]:List S152)).map e152))))::T0)) (by first|rfl|simp only[y14,m18,cond_true,cond_false]) ?_
    refine .a 1 ?_
    exact .nE (d:=82) rfl ⟨⟨82,_,rfl,rfl,rfl⟩,.of_eq (by first|rfl|simp only[y14,m18,cond_true,cond_false]) (.refl _)⟩
   ·intro L σ hc hi hd
    have y14:L 14=true:=on_get hd (i:=14) (by rfl)
    refine .heq (H':=((Z10 q2 p2)::(n4,(.mem (e131 p1)))::(Z19 n8 t5.1)::(Z1 q0 t5.2.f0.f0 n7 t5.2.f0.f1.length t5.2.f0.f2 t5.2.f0.f3)::((σ 14),(.mem (.ar 7 ((t5.2.f0.f1++([(S152.mk t5.1.f0 t5.1.f1 p1.f1 false)]:List S152)).map e152))))::T0)) (by first|rfl|simp only[hi,y14,cond_true,cond_false]) ?_
    refine .wK [79,82] ?_
    refine .store 3 rfl rfl rfl rfl rfl rfl (.cast (.fld0 (.fldS (.fld0 .here))) rfl) rfl rfl sz119 rfl ?_
    have a14:addL L 18 14=true:=y14
    have a18:addL L 18 18=true:=rfl
    exact .n0 ⟨σ,(fun _ _=>rfl),(fun d' hd'=>by cases hd'),.of_eq (B:=((Z10 q2 p2)::(n4,(.mem (e131 p1)))::(Z19 n8 t5.1)::(Z1 q0 t5.2.f0.f0 (σ 14) (t5.2.f0.f1++([(S152.mk t5.1.f0 t5.1.f1 p1.f1 false)]:List S152)).length t5.2.f0.f2 t5.2.f0.f3)::((σ 14),(.mem (.ar 7 ((t5.2.f0.f1++([(S152.mk t5.1.f0 t5.1.f1 p1.f1 false)]:List S152)).map e152))))::T0)) (by simp only[a14,a18,cond_true,cond_false]) (.refl _)⟩
   generalize σ 14=n25
   refine .nH [2,4,7,8] (H':=((Z1 q0 t5.2.f0.f0 n25 (t5.2.f0.f1++([(S152.mk t5.1.f0 t5.1.f1 p1.f1 false)]:List S152)).length t5.2.f0.f2 t5.2.f0.f3)::(Z8 n25 (t5.2.f0.f1++([(S152.mk t5.1.f0 t5.1.f1 p1.f1 false)]:List S152)))::(Z10 q2 p2)::(n4,(.mem (e131 p1)))::(Z19 n8 t5.1)::T0)) (.cons 3 rfl (.cons 3 rfl (.cons 0 rfl (.cons 0 rfl (.cons 0 rfl (.refl _)))))) ?_
   exact⟨n25,t5.2.f0.f0,(t5.2.f0.f1++([(S152.mk t5.1.f0 t5.1.f1 p1.f1 false)]:List S152)),t5.2.f0.f2,t5.2.f0.f3,rfl,rfl,h⟩
  refine .a 6 ?_
  rcases oi h with⟨c27,h⟩|⟨c27,h⟩
  ·refine .a 2 ?_
   obtain⟨g28,h⟩:=of_guard h
   obtain⟨g29,h⟩:=of_guard h
   refine .regEff (by rfl) (by decide+kernel) (fun (σ:Nat→Nat)=>([(.own q2 0 p2.length),(eI64 (p2.length:Int)),(eI64 (w64 ((p2.length:Int) - (2:Int)))),(.ptr q2 ((w64 ((p2.length:Int) - (2:Int))).toNat*2+0)),(e150 (lget p2 (w64 ((p2.length:Int) - (2:Int))))),(.own q2 0 p2.length),(eI64 (p2.length:Int)),(eI64 (w64 ((p2.length:Int) - (1:Int)))),(.ptr q2 ((w64 ((p2.length:Int) - (1:Int))).toNat*2+0)),(e150 (lget p2 (w64 ((p2.length:Int) - (1:Int))))),(.ptr (σ 10) 0),(.ptr (σ 11) 0),(.fl undef),(.fl undef)]:List AV)) (fun (L:Nat→Bool) (σ:Nat→Nat)=>((Z1 q0 t5.2.f0.f0 n7 t5.2.f0.f1.length t5.2.f0.f2 t5.2.f0.f3)::(Z8 n7 t5.2.f0.f1)::(Z10 q2 p2)::(n4,(.mem (e131 p1)))::(Z19 n8 t5.1)::(bif L 10 then(bif L 11 then(bif L 12 then(bif L 13 then(((σ 11),(.mem (e150 (lget p2 (w64 ((p2.length:Int) - (1:Int)))))))::((σ 10),(.mem (e150 (lget p2 (w64 ((p2.length:Int) - (2:Int)))))))::T0)else(((σ 11),(Z18 (0:Int)))::((σ 10),(.mem (e150 (lget p2 (w64 ((p2.length:Int) - (2:Int)))))))::T0))else(((σ 11),(Z18 (0:Int)))::((σ 10),(Z18 (0:Int)))::T0))else(((σ 10),(Z18 (0:Int)))::T0))else(bif L 11 then(((σ 11),(Z18 (0:Int)))::T0)else(T0))):Heap)) [(0,(.ptr q0 0)),(2,(.own q2 0 p2.length)),(4,(.ptr n4 0)),(7,(eI64 (p2.length:Int))),(8,(.ptr n8 0))] ⟨rfl,rfl,rfl,rfl,rfl,trivial⟩ (fun _=>rfl) (fun σ=>(.refl _)) ⟨?_,?_,?_,?_,?_,?_,?_,?_,?_,?_,?_,?_,?_,?_,trivial⟩ (fun σ=>[(0,(.ptr q0 0)),(2,(.own q2 0 p2.length)),(4,(.ptr n4 0)),(7,(eI64 (p2.length:Int))),(8,(.ptr n8 0)),(9,(.ptr (σ 10) 0)),(10,(.ptr (σ 11) 0))]) (fun σ=>((Z1 q0 t5.2.f0.f0 n7 t5.2.f0.f1.length t5.2.f0.f2 t5.2.f0.f3)::(Z8 n7 t5.2.f0.f1)::(Z10 q2 p2)::(n4,(.mem (e131 p1)))::(Z19 n8 t5.1)::((σ 11),(.mem (e150 (lget p2 (w64 ((p2.length:Int) - (1:Int)))))))::((σ 10),(.mem (e150 (lget p2 (w64 ((p2.length:Int) - (2:Int)))))))::T0)) (fun σ=>⟨rfl,rfl,rfl,rfl,rfl,rfl,rfl,trivial⟩) (fun σ=>.refl _) (fun σ=>?_)
   ·refine .calm (fun _ _=>rfl) fun L σ hc hi hd=>?_
    refine .a 1 ?_
    exact .nE (d:=85) rfl ⟨⟨85,_,rfl,rfl,rfl⟩,.refl _⟩
   ·refine .calm (fun _ _=>rfl) fun L σ hc hi hd=>?_
    refine .a 1 ?_
    exact .nE (d:=86) rfl ⟨⟨86,_,rfl,rfl,rfl⟩,.refl _⟩
   ·refine .calm (fun _ _=>rfl) fun L σ hc hi hd=>?_
    refine .a 1 ?_
    exact .nE (d:=87) rfl ⟨⟨87,_,rfl,rfl,rfl⟩,.refl _⟩
   ·refine .calm (fun _ _=>rfl) fun L σ hc hi hd=>?_
    refine .a 1 ?_
    exact .nE (d:=88) rfl ⟨⟨88,_,rfl,rfl,rfl⟩,.refl _⟩
   ·refine .calm (fun _ _=>rfl) fun L σ hc hi hd=>?_
    refine .wK [88] ?_
    refine .c (.load 2 rfl rfl rfl (.cast (.lidx (w64 ((p2.length:Int) - (2:Int))) g28.1 g28.2 .here) (by omega)) ag150 sz150) ?_
    exact .nE (d:=89) rfl ⟨⟨89,_,rfl,rfl,rfl⟩,.refl _⟩
   ·refine .calm (fun _ _=>rfl) fun L σ hc hi hd=>?_
    refine .a 1 ?_
    exact .nE (d:=90) rfl ⟨⟨90,_,rfl,rfl,rfl⟩,.refl _⟩
   ·refine .calm (fun _ _=>rfl) fun L σ hc hi hd=>?_
    refine .a 1 ?_
    exact .nE (d:=91) rfl ⟨⟨91,_,rfl,rfl,rfl⟩,.refl _⟩
   ·refine .calm (fun _ _=>rfl) fun L σ hc hi hd=>?_
    refine .a 1 ?_
    exact .nE (d:=92) rfl ⟨⟨92,_,rfl,rfl,rfl⟩,.refl _⟩
   ·refine .calm (fun _ _=>rfl) fun L σ hc hi hd=>?_
    refine .a 1 ?_
    exact .nE (d:=93) rfl ⟨⟨93,_,rfl,rfl,rfl⟩,.refl _⟩
   ·refine .calm (fun _ _=>rfl) fun L σ hc hi hd=>?_
    refine .wK [93] ?_
    refine .c (.load 2 rfl rfl rfl (.cast (.lidx (w64 ((p2.length:Int) - (1:Int))) g29.1 g29.2 .here) (by omega)) ag150 sz150) ?_
    exact .nE (d:=94) rfl ⟨⟨94,_,rfl,rfl,rfl⟩,.refl _⟩
   ·intro L σ hc hi hd
    have m12:L 12=false:=hc.neg (i:=10) (j:=12) rfl (by rfl) hi
    have m13:L 13=false:=hc.neg (i:=10) (j:=13) rfl (by rfl) hi
    cases b11:L 11 with
    | true=>
      refine .heq (H':=((Z1 q0 t5.2.f0.f0 n7 t5.2.f0.f1.length t5.2.f0.f2 t5.2.f0.f3)::(Z8 n7 t5.2.f0.f1)::(Z10 q2 p2)::(n4,(.mem (e131 p1)))::(Z19 n8 t5.1)::((σ 11),(Z18 (0:Int)))::T0)) (by first|rfl|simp only[hi,b11,m12,m13,cond_true,cond_false]) ?_
      refine .wK [] ?_
      refine .alloc rfl 9 rfl (by decide) rfl zr150 lay150 fun n30=>?_
      have a10:addL L 10 10=true:=rfl
      have a11:addL L 10 11=true:=b11
      have a12:addL L 10 12=false:=m12
      have a13:addL L 10 13=false:=m13
      have u10:upd σ 10 n30 10=n30:=rfl
      have u11:upd σ 10 n30 11=σ 11:=rfl
      exact .nE (d:=9) rfl ⟨(upd σ 10 n30),(fun j hj=>match j,hj with |0,_=>rfl|1,_=>rfl|2,_=>rfl|3,_=>rfl|4,_=>rfl|5,_=>rfl|6,_=>rfl|7,_=>rfl|8,_=>rfl|9,_=>rfl|10,hj=>Bool.noConfusion (hj.symm.trans hi)|11,_=>rfl|12,_=>rfl|13,_=>rfl|_+14,_=>rfl),(fun d' hd'=>⟨_,rfl,by cases hd';rfl⟩),.of_eq (B:=((Z1 q0 t5.2.f0.f0 n7 t5.2.f0.f1.length t5.2.f0.f2 t5.2.f0.f3)::(Z8 n7 t5.2.f0.f1)::(Z10 q2 p2)::(n4,(.mem (e131 p1)))::(Z19 n8 t5.1)::((σ 11),(Z18 (0:Int)))::(n30,(Z18 (0:Int)))::T0)) (by simp only[a10,a11,a12,a13,u10,u11,cond_true,cond_false]) (.cons 1 rfl (.cons 1 rfl (.cons 1 rfl (.cons 1 rfl (.cons 1 rfl (.cons 1 rfl (.cons 0 rfl (.refl _))))))))⟩
    | false=>
      refine .heq (H':=((Z1 q0 t5.2.f0.f0 n7 t5.2.f0.f1.length t5.2.f0.f2 t5.2.f0.f3)::(Z8 n7 t5.2.f0.f1)::(Z10 q2 p2)::(n4,(.mem (e131 p1)))::(Z19 n8 t5.1)::T0)) (by first|rfl|simp only[hi,b11,m12,m13,cond_true,cond_false]) ?_
      refine .wK [] ?_
      refine .alloc rfl 9 rfl (by decide) rfl zr150 lay150 fun n30=>?_
      have a10:addL L 10 10=true:=rfl
      have a11:addL L 10 11=false:=b11
      have a12:addL L 10 12=false:=m12
      have a13:addL L 10 13=false:=m13
      have u10:upd σ 10 n30 10=n30:=rfl
      have u11:upd σ 10 n30 11=σ 11:=rfl
      exact .nE (d:=9) rfl ⟨(upd σ 10 n30),(fun j hj=>match j,hj with |0,_=>rfl|1,_=>rfl|2,_=>rfl|3,_=>rfl|4,_=>rfl|5,_=>rfl|6,_=>rfl|7,_=>rfl|8,_=>rfl|9,_=>rfl|10,hj=>Bool.noConfusion (hj.symm.trans hi)|11,_=>rfl|12,_=>rfl|13,_=>rfl|_+14,_=>rfl),(fun d' hd'=>⟨_,rfl,by cases hd';rfl⟩),.of_eq (B:=((Z1 q0 t5.2.f0.f0 n7 t5.2.f0.f1.length t5.2.f0.f2 t5.2.f0.f3)::(Z8 n7 t5.2.f0.f1)::(Z10 q2 p2)::(n4,(.mem (e131 p1)))::(Z19 n8 t5.1)::(n30,(Z18 (0:Int)))::T0)) (by simp only[a10,a11,a12,a13,u10,u11,cond_true,cond_false]) (.cons 1 rfl (.cons 1 rfl (.cons 1 rfl (.cons 1 rfl (.cons 1 rfl (.cons 0 rfl (.refl _)))))))⟩
   ·intro L σ hc hi hd
    have m12:L 12=false:=hc.neg (i:=11) (j:=12) rfl (by rfl) hi
    have m13:L 13=false:=hc.neg (i:=11) (j:=13) rfl (by rfl) hi
    cases b10:L 10 with
    | true=>
      refine .heq (H':=((Z1 q0 t5.2.f0.f0 n7 t5.2.f0.f1.length t5.2.f0.f2 t5.2.f0.f3)::(Z8 n7 t5.2.f0.f1)::(Z10 q2 p2)::(n4,(.mem (e131 p1)))::(Z19 n8 t5.1)::((σ 10),(Z18 (0:Int)))::T0)) (by first|rfl|simp only[hi,b10,m12,m13,cond_true,cond_false]) ?_
      refine .wK [] ?_
      refine .alloc rfl 10 rfl (by decide) rfl zr150 lay150 fun n31=>?_
      have a10:addL L 11 10=true:=b10
      have a11:addL L 11 11=true:=rfl
      have a12:addL L 11 12=false:=m12
      have a13:addL L 11 13=false:=m13
      have u10:upd σ 11 n31 10=σ 10:=rfl
      have u11:upd σ 11 n31 11=n31:=rfl
      exact .nE (d:=10) rfl ⟨(upd σ 11 n31),(fun j hj=>match j,hj with |0,_=>rfl|1,_=>rfl|2,_=>rfl|3,_=>rfl|4,_=>rfl|5,_=>rfl|6,_=>rfl|7,_=>rfl|8,_=>rfl|9,_=>rfl|10,_=>rfl|11,hj=>Bool.noConfusion (hj.symm.trans hi)|12,_=>rfl|13,_=>rfl|_+14,_=>rfl),(fun d' hd'=>⟨_,rfl,by cases hd';rfl⟩),.of_eq (B:=((Z1 q0 t5.2.f0.f0 n7 t5.2.f0.f1.length t5.2.f0.f2 t5.2.f0.f3)::(Z8 n7 t5.2.f0.f1)::(Z10 q2 p2)::(n4,(.mem (e131 p1)))::(Z19 n8 t5.1)::(n31,(Z18 (0:Int)))::((σ 10),(Z18 (0:Int)))::T0)) (by simp only[a10,a11,a12,a13,u10,u11,cond_true,cond_false]) (.cons 1 rfl (.cons 1 rfl (.cons 1 rfl (.cons 1 rfl (.cons 1 rfl (.cons 0 rfl (.cons 0 rfl (.refl _))))))))⟩
    | false=>
      refine .heq (H':=((Z1 q0 t5.2.f0.f0 n7 t5.2.f0.f1.length t5.2.f0.f2 t5.2.f0.f3)::(Z8 n7 t5.2.f0.f1)::(Z10 q2 p2)::(n4,(.mem (e131 p1)))::(Z19 n8 t5.1)::T0)) (by first|rfl|simp only[hi,b10,m12,m13,cond_true,cond_false]) ?_
      refine .wK [] ?_
      refine .alloc rfl 10 rfl (by decide) rfl zr150 lay150 fun n31=>?_
      have a10:addL L 11 10=false:=b10
      have a11:addL L 11 11=true:=rfl
      have a12:addL L 11 12=false:=m12
      have a13:addL L 11 13=false:=m13
      have u10:upd σ 11 n31 10=σ 10:=rfl
      have u11:upd σ 11 n31 11=n31:=rfl
      exact .nE (d:=10) rfl ⟨(upd σ 11 n31),(fun j hj=>match j,hj with |0,_=>rfl|1,_=>rfl|2,_=>rfl|3,_=>rfl|4,_=>rfl|5,_=>rfl|6,_=>rfl|7,_=>rfl|8,_=>rfl|9,_=>rfl|10,_=>rfl|11,hj=>Bool.noConfusion (hj.symm.trans hi)|12,_=>rfl|13,_=>rfl|_+14,_=>rfl),(fun d' hd'=>⟨_,rfl,by cases hd';rfl⟩),.of_eq (B:=((Z1 q0 t5.2.f0.f0 n7 t5.2.f0.f1.length t5.2.f0.f2 t5.2.f0.f3)::(Z8 n7 t5.2.f0.f1)::(Z10 q2 p2)::(n4,(.mem (e131 p1)))::(Z19 n8 t5.1)::(n31,(Z18 (0:Int)))::T0)) (by simp only[a10,a11,a12,a13,u10,u11,cond_true,cond_false]) (.cons 1 rfl (.cons 1 rfl (.cons 1 rfl (.cons 1 rfl (.cons 1 rfl (.cons 0 rfl (.refl _)))))))⟩
   ·intro L σ hc hi hd
    have y10:L 10=true:=on_get hd (i:=10) (by rfl)
    have y11:L 11=true:=on_get hd (i:=11) (by rfl)
    have m13:L 13=false:=hc.neg (i:=12) (j:=13) rfl (by rfl) hi
    refine .heq (H':=((Z1 q0 t5.2.f0.f0 n7 t5.2.f0.f1.length t5.2.f0.f2 t5.2.f0.f3)::(Z8 n7 t5.2.f0.f1)::(Z10 q2 p2)::(n4,(.mem (e131 p1)))::(Z19 n8 t5.1)::((σ 11),(Z18 (0:Int)))::((σ 10),(Z18 (0:Int)))::T0)) (by first|rfl|simp only[hi,y10,y11,m13,cond_true,cond_false]) ?_
    refine .wK [9,89] ?_
    refine .store 6 rfl rfl rfl rfl rfl rfl (.cast .here rfl) rfl rfl sz150 rfl ?_
    have a10:addL L 12 10=true:=y10
    have a11:addL L 12 11=true:=y11
    have a12:addL L 12 12=true:=rfl
    have a13:addL L 12 13=false:=m13
    exact .n0 ⟨σ,(fun _ _=>rfl),(fun d' hd'=>by cases hd'),.of_eq (B:=((Z1 q0 t5.2.f0.f0 n7 t5.2.f0.f1.length t5.2.f0.f2 t5.2.f0.f3)::(Z8 n7 t5.2.f0.f1)::(Z10 q2 p2)::(n4,(.mem (e131 p1)))::(Z19 n8 t5.1)::((σ 11),(Z18 (0:Int)))::((σ 10),(.mem (e150 (lget p2 (w64 ((p2.length:Int) - (2:Int)))))))::T0)) (by simp only[a10,a11,a12,a13,cond_true,cond_false]) (.refl _)⟩
   ·intro L σ hc hi hd
    have y10:L 10=true:=on_get hd (i:=10) (by rfl)
    have y11:L 11=true:=on_get hd (i:=11) (by rfl)
    have y12:L 12=true:=on_get hd (i:=12) (by rfl)
    refine .heq (H':=((Z1 q0 t5.2.f0.f0 n7 t5.2.f0.f1.length t5.2.f0.f2 t5.2.f0.f3)::(Z8 n7 t5.2.f0.f1)::(Z10 q2 p2)::(n4,(.mem (e131 p1)))::(Z19 n8 t5.1)::((σ 11),(Z18 (0:Int)))::((σ 10),(.mem (e150 (lget p2 (w64 ((p2.length:Int) - (2:Int)))))))::T0)) (by first|rfl|simp only[hi,y10,y11,y12,cond_true,cond_false]) ?_
    refine .wK [10,94] ?_
    refine .store 5 rfl rfl rfl rfl rfl rfl (.cast .here rfl) rfl rfl sz150 rfl ?_
    have a10:addL L 13 10=true:=y10
    have a11:addL L 13 11=true:=y11
    have a12:addL L 13 12=true:=y12
    have a13:addL L 13 13=true:=rfl
    exact .n0 ⟨σ,(fun _ _=>rfl),(fun d' hd'=>by cases hd'),.of_eq (B:=((Z1 q0 t5.2.f0.f0 n7 t5.2.f0.f1.length t5.2.f0.f2 t5.2.f0.f3)::(Z8 n7 t5.2.f0.f1)::(Z10 q2 p2)::(n4,(.mem (e131 p1)))::(Z19 n8 t5.1)::((σ 11),(.mem (e150 (lget p2 (w64 ((p2.length:Int) - (1:Int)))))))::((σ 10),(.mem (e150 (lget p2 (w64 ((p2.length:Int) - (2:Int)))))))::T0)) (by simp only[a10,a11,a12,a13,cond_true,cond_false]) (.refl _)⟩
   generalize σ 10=n30
   generalize σ 11=n31
   refine .nH [0,2,4,7,8,9,10] (H':=((Z1 q0 t5.2.f0.f0 n7 t5.2.f0.f1.length t5.2.f0.f2 t5.2.f0.f3)::(Z8 n7 t5.2.f0.f1)::(Z10 q2 p2)::(n4,(.mem (e131 p1)))::(Z19 n8 t5.1)::(Z19 n30 (lget p2 (w64 ((p2.length:Int) - (2:Int)))))::(Z19 n31 (lget p2 (w64 ((p2.length:Int) - (1:Int)))))::T0)) (.cons 0 rfl (.cons 0 rfl (.cons 0 rfl (.cons 0 rfl (.cons 0 rfl (.cons 1 rfl (.cons 0 rfl (.refl _)))))))) ?_
   refine .a 7 ?_
   obtain⟨t32,et32,h⟩:=ob h
   refine .callH [(.ptr q0 0),(eI64 t5.1.f0),(eI64 ((lget p2 (w64 ((p2.length:Int) - (2:Int)))).f0))] ((Z1 q0 t5.2.f0.f0 n7 t5.2.f0.f1.length t5.2.f0.f2 t5.2.f0.f3)::(Z8 n7 t5.2.f0.f1)::(Z10 q2 p2)::(n4,(.mem (e131 p1)))::(Z19 n8 t5.1)::(Z19 n30 (lget p2 (w64 ((p2.length:Int) - (2:Int)))))::(Z19 n31 (lget p2 (w64 ((p2.length:Int) - (1:Int)))))::T0) _ rfl rfl rfl 100 rfl (by decide) ok121 ⟨rfl,rfl,rfl,rfl,rfl,rfl,trivial⟩ (.cons 0 rfl (.cons 0 rfl (.refl _))) (F121_spec et32) ?_
   rintro _ _ ⟨n34,rfl,hs33⟩
   refine .wH [0,2,4,7,8,9,10,95,96,97,98,99,100] hs33 ?_
   refine .a 8 ?_
   obtain⟨t35,et35,h⟩:=ob h
   refine .callH [(.ptr q0 0),(eI64 ((lget p2 (w64 ((p2.length:Int) - (2:Int)))).f1)),(eI64 ((lget p2 (w64 ((p2.length:Int) - (1:Int)))).f0))] ((Z1 q0 t32.f0.f0 n34 t32.f0.f1.length t32.f0.f2 t32.f0.f3)::(Z8 n34 t32.f0.f1)::(Z10 q2 p2)::(n4,(.mem (e131 p1)))::(Z19 n8 t5.1)::(Z19 n30 (lget p2 (w64 ((p2.length:Int) - (2:Int)))))::(Z19 n31 (lget p2 (w64 ((p2.length:Int) - (1:Int)))))::T0) _ rfl rfl rfl 106 rfl (by decide) ok121 ⟨rfl,rfl,rfl,rfl,rfl,rfl,trivial⟩ (.cons 0 rfl (.cons 0 rfl (.refl _))) (F121_spec et35) ?_
   rintro _ _ ⟨n37,rfl,hs36⟩
   refine .wH [0,2,4,7,8,9,10,101,102,103,104,105,106] hs36 ?_
   refine .nH [0,2,4,7,8,10] (H':=((Z1 q0 t35.f0.f0 n37 t35.f0.f1.length t35.f0.f2 t35.f0.f3)::(Z8 n37 t35.f0.f1)::(Z10 q2 p2)::(n4,(.mem (e131 p1)))::(Z19 n8 t5.1)::(Z19 n31 (lget p2 (w64 ((p2.length:Int) - (1:Int)))))::T0)) (.cons 0 rfl (.cons 0 rfl (.cons 0 rfl (.cons 0 rfl (.cons 0 rfl (.cons 1 rfl (.drop (.refl _)))))))) ?_
   refine .a 6 ?_
   obtain⟨t38,et38,h⟩:=ob h
   refine .callH [(.ptr q0 0),(eI64 ((lget p2 (w64 ((p2.length:Int) - (1:Int)))).f1)),(eI64 t5.1.f1)] ((Z1 q0 t35.f0.f0 n37 t35.f0.f1.length t35.f0.f2 t35.f0.f3)::(Z8 n37 t35.f0.f1)::(Z10 q2 p2)::(n4,(.mem (e131 p1)))::(Z19 n8 t5.1)::(Z19 n31 (lget p2 (w64 ((p2.length:Int) - (1:Int)))))::T0) _ rfl rfl rfl 112 rfl (by decide) ok121 ⟨rfl,rfl,rfl,rfl,rfl,rfl,trivial⟩ (.cons 0 rfl (.cons 0 rfl (.refl _))) (F121_spec et38) ?_
   rintro _ _ ⟨n40,rfl,hs39⟩
   refine .wH [0,2,4,7,8,10,107,108,109,110,111,112] hs39 ?_
   refine .nH [2,4,7,8] (H':=((Z1 q0 t38.f0.f0 n40 t38.f0.f1.length t38.f0.f2 t38.f0.f3)::(Z8 n40 t38.f0.f1)::(Z10 q2 p2)::(n4,(.mem (e131 p1)))::(Z19 n8 t5.1)::T0)) (.cons 0 rfl (.cons 0 rfl (.cons 0 rfl (.cons 0 rfl (.cons 0 rfl (.drop (.refl _))))))) ?_
   exact⟨n40,t38.f0.f0,t38.f0.f1,t38.f0.f2,t38.f0.f3,rfl,rfl,h⟩
  refine .a 6 ?_
  rcases oi h with⟨c41,h⟩|⟨c41,h⟩
  ·refine .a 6 ?_
   obtain⟨g42,h⟩:=of_guard h
   refine .c (x:=.own q2 ((w64 ((p2.length:Int) - (2:Int))).toNat) (p2.length - (w64 ((p2.length:Int) - (2:Int))).toNat)) (.sufO 2 rfl rfl rfl rfl g42 Try.underlying147 sz150) ?_
   refine .a 4 ?_
   refine .wK [0,2,4,7,8,118,119,120] ?_
   refine .loop (fun kq ρ H=>∃ (n44:Nat) (x43:Int) (x45:(List S152)) (x46:Int) (x47:Int) (x48:Int),ρ=[(0,(.ptr q0 0)),(2,(.own q2 0 p2.length)),(4,(.ptr n4 0)),(7,(eI64 (p2.length:Int))),(8,(.ptr n8 0)),(118,(.own q2 ((w64 ((p2.length:Int) - (2:Int))).toNat) (p2.length - (w64 ((p2.length:Int) - (2:Int))).toNat))),(119,(eI64 (((p2.length - (w64 ((p2.length:Int) - (2:Int))).toNat):Nat):Int))),(120,(eI64 x48))]∧H=((Z1 q0 x43 n44 x45.length x46 x47)::(Z8 n44 x45)::(Z10 q2 p2)::(n4,(.mem (e131 p1)))::(Z19 n8 t5.1)::T0)∧F94_l1 k p1 p2 t5 kq x43 x45 x46 x47 x48=some r) k ⟨n7,t5.2.f0.f0,t5.2.f0.f1,t5.2.f0.f2,t5.2.f0.f3,(0:Int),rfl,rfl,h⟩ ?_
   rintro kq50 _ _ ⟨n44,x43,x45,x46,x47,x48,rfl,rfl,h⟩
   cases kq50 with
   | zero=>rw[F94_l1.eq_1]at h;cases h
   | succ kq50=>
   rw[F94_l1.eq_2]at h
   generalize hrec49:F94_l1 k p1 p2 t5 kq50=rec49 at h
   refine .a 5 ?_
   rcases oi h with⟨c51,h⟩|⟨c51,h⟩
   ·refine .a 6 ?_
    obtain⟨g52,h⟩:=of_guard h
    have hx53:0≤((w64 ((p2.length:Int) - (2:Int)))+x48)∧((w64 ((p2.length:Int) - (2:Int)))+x48)<(p2.length:Int):=by omega
    refine .c (x:=.ptr q2 (((w64 ((p2.length:Int) - (2:Int)))+x48).toNat*2+0)) (.idxSufO 2 rfl rfl rfl rfl g42.1 g52 Try.underlying147 sz150) ?_
    refine .c (.load 2 rfl rfl rfl (.cast (.lidx ((w64 ((p2.length:Int) - (2:Int)))+x48) hx53.1 hx53.2 .here) (by omega)) ag150 sz150) ?_
    refine .alloc rfl 12 rfl (by decide) rfl zr150 lay150 fun n54=>?_
    refine .store 0 rfl rfl rfl rfl rfl rfl (.cast .here rfl) rfl rfl sz150 rfl ?_
    refine .nH [0,2,4,7,8,12,118,119,120] (H':=((Z1 q0 x43 n44 x45.length x46 x47)::(Z8 n44 x45)::(Z10 q2 p2)::(n4,(.mem (e131 p1)))::(Z19 n8 t5.1)::(Z19 n54 (lget p2 ((w64 ((p2.length:Int) - (2:Int)))+x48)))::T0)) (.cons 1 rfl (.cons 1 rfl (.cons 1 rfl (.cons 1 rfl (.cons 1 rfl (.cons 0 rfl (.refl _))))))) ?_
    refine .a 7 ?_
    obtain⟨t55,et55,h⟩:=ob h
    refine .callH [(.ptr q0 0),(eI64 t5.1.f0),(eI64 ((lget p2 ((w64 ((p2.length:Int) - (2:Int)))+x48)).f0))] ((Z1 q0 x43 n44 x45.length x46 x47)::(Z8 n44 x45)::(Z10 q2 p2)::(n4,(.mem (e131 p1)))::(Z19 n8 t5.1)::(Z19 n54 (lget p2 ((w64 ((p2.length:Int) - (2:Int)))+x48)))::T0) _ rfl rfl rfl 129 rfl (by decide) ok121 ⟨rfl,rfl,rfl,rfl,rfl,rfl,trivial⟩ (.cons 0 rfl (.cons 0 rfl (.refl _))) (F121_spec et55) ?_
    rintro _ _ ⟨n57,rfl,hs56⟩
    refine .wH [0,2,4,7,8,12,118,119,120,124,125,126,127,128,129] hs56 ?_
    refine .a 7 ?_
    obtain⟨t58,et58,h⟩:=ob h
    refine .callH [(.ptr q0 0),(eI64 ((lget p2 ((w64 ((p2.length:Int) - (2:Int)))+x48)).f1)),(eI64 t5.1.f1)] ((Z1 q0 t55.f0.f0 n57 t55.f0.f1.length t55.f0.f2 t55.f0.f3)::(Z8 n57 t55.f0.f1)::(Z10 q2 p2)::(n4,(.mem (e131 p1)))::(Z19 n8 t5.1)::(Z19 n54 (lget p2 ((w64 ((p2.length:Int) - (2:Int)))+x48)))::T0) _ rfl rfl rfl 135 rfl (by decide) ok121 ⟨rfl,rfl,rfl,rfl,rfl,rfl,trivial⟩ (.cons 0 rfl (.cons 0 rfl (.refl _))) (F121_spec et58) ?_
    rintro _ _ ⟨n60,rfl,hs59⟩
    refine .wH [0,2,4,7,8,12,118,119,120,130,131,132,133,134,135] hs59 ?_
    refine .nH [0,2,4,7,8,118,119,120] (H':=((Z1 q0 t58.f0.f0 n60 t58.f0.f1.length t58.f0.f2 t58.f0.f3)::(Z8 n60 t58.f0.f1)::(Z10 q2 p2)::(n4,(.mem (e131 p1)))::(Z19 n8 t5.1)::T0)) (.cons 0 rfl (.cons 0 rfl (.cons 0 rfl (.cons 0 rfl (.cons 0 rfl (.drop (.refl _))))))) ?_
    refine .a 3 ?_
    refine .nK [0,2,4,7,8,118,119,120] ?_
    exact⟨kq50,Nat.lt_succ_self _,n60,t58.f0.f0,t58.f0.f1,t58.f0.f2,t58.f0.f3,(w64 (x48+(1:Int))),rfl,rfl,by rw[hrec49];exact h⟩
   refine .a 1 ?_
   refine .eK [2,4,7,8] ?_
   exact⟨n44,x43,x45,x46,x47,rfl,rfl,h⟩
  refine .condN _ rfl c41 ?_
  refine .sr ?_
  refine .mv rfl rfl ?_
  refine .mv rfl rfl ?_
  refine .c (x:=eI64 (w64 ((p2.length:Int) - (1:Int)))) (.int rfl rfl rfl rfl) ?_
  obtain⟨g61,h⟩:=of_guard h
  refine .c (.idxO 2 rfl rfl rfl rfl g61 Try.underlying147 sz150) ?_
  refine .c (.load 2 rfl rfl rfl (.cast (.lidx (w64 ((p2.length:Int) - (1:Int))) g61.1 g61.2 .here) (by omega)) ag150 sz150) ?_
  refine .alloc rfl 13 rfl (by decide) rfl zr150 lay150 fun n62=>?_
  refine .store 0 rfl rfl rfl rfl rfl rfl (.cast .here rfl) rfl rfl sz150 rfl ?_
  refine .nH [0,2,4,7,8,13] (H':=((Z1 q0 t5.2.f0.f0 n7 t5.2.f0.f1.length t5.2.f0.f2 t5.2.f0.f3)::(Z8 n7 t5.2.f0.f1)::(Z10 q2 p2)::(n4,(.mem (e131 p1)))::(Z19 n8 t5.1)::(Z19 n62 (lget p2 (w64 ((p2.length:Int) - (1:Int)))))::T0)) (.cons 1 rfl (.cons 1 rfl (.cons 1 rfl (.cons 1 rfl (.cons 1 rfl (.cons 0 rfl (.refl _))))))) ?_
  refine .a 7 ?_
  obtain⟨t63,et63,h⟩:=ob h
  refine .callH [(.ptr q0 0),(eI64 t5.1.f0),(eI64 ((lget p2 (w64 ((p2.length:Int) - (1:Int)))).f0))] ((Z1 q0 t5.2.f0.f0 n7 t5.2.f0.f1.length t5.2.f0.f2 t5.2.f0.f3)::(Z8 n7 t5.2.f0.f1)::(Z10 q2 p2)::(n4,(.mem (e131 p1)))::(Z19 n8 t5.1)::(Z19 n62 (lget p2 (w64 ((p2.length:Int) - (1:Int)))))::T0) _ rfl rfl rfl 30 rfl (by decide) ok121 ⟨rfl,rfl,rfl,rfl,rfl,rfl,trivial⟩ (.cons 0 rfl (.cons 0 rfl (.refl _))) (F121_spec et63) ?_
  rintro _ _ ⟨n65,rfl,hs64⟩
  refine .wH [0,2,4,7,8,13,25,26,27,28,29,30] hs64 ?_
  refine .a 8 ?_
  obtain⟨t66,et66,h⟩:=ob h
  refine .callH [(.ptr q0 0),(eI64 ((lget p2 (w64 ((p2.length:Int) - (1:Int)))).f1)),(eI64 t5.1.f1)] ((Z1 q0 t63.f0.f0 n65 t63.f0.f1.length t63.f0.f2 t63.f0.f3)::(Z8 n65 t63.f0.f1)::(Z10 q2 p2)::(n4,(.mem (e131 p1)))::(Z19 n8 t5.1)::(Z19 n62 (lget p2 (w64 ((p2.length:Int) - (1:Int)))))::T0) _ rfl rfl rfl 36 rfl (by decide) ok121 ⟨rfl,rfl,rfl,rfl,rfl,rfl,trivial⟩ (.cons 0 rfl (.cons 0 rfl (.refl _))) (F121_spec et66) ?_
  rintro _ _ ⟨n68,rfl,hs67⟩
  refine .wH [0,2,4,7,8,13,31,32,33,34,35,36] hs67 ?_
  refine .nK [0,2,4,7,8,13] ?_
  refine .seq_mid (fun ρ H=>∃ (n70:Nat) (x69:Int) (x71:(List S152)) (x72:Int) (x73:Int),ρ=[(0,(.ptr q0 0)),(2,(.own q2 0 p2.length)),(4,(.ptr n4 0)),(7,(eI64 (p2.length:Int))),(8,(.ptr n8 0))]∧H=((Z1 q0 x69 n70 x71.length x72 x73)::(Z8 n70 x71)::(Z10 q2 p2)::(n4,(.mem (e131 p1)))::(Z19 n8 t5.1)::T0)∧F94_c2 k p1 p2 t5 x69 x71 x72 x73=some r) ?_ ?_
  ·refine .a 6 ?_
   rcases oi h with⟨c78,h⟩|⟨c78,h⟩
   ·refine .a 7 ?_
    obtain⟨t79,et79,h⟩:=ob h
    refine .callH [(.ptr q0 0),(eI64 ((lget p2 (w64 ((p2.length:Int) - (1:Int)))).f1)),(eI64 ((lget p2 (w64 ((p2.length:Int) - (1:Int)))).f0))] ((Z1 q0 t66.f0.f0 n68 t66.f0.f1.length t66.f0.f2 t66.f0.f3)::(Z8 n68 t66.f0.f1)::(Z10 q2 p2)::(n4,(.mem (e131 p1)))::(Z19 n8 t5.1)::(Z19 n62 (lget p2 (w64 ((p2.length:Int) - (1:Int)))))::T0) _ rfl rfl rfl 45 rfl (by decide) ok121 ⟨rfl,rfl,rfl,rfl,rfl,rfl,trivial⟩ (.cons 0 rfl (.cons 0 rfl (.refl _))) (F121_spec et79) ?_
    rintro _ _ ⟨n81,rfl,hs80⟩
    refine .wH [0,2,4,7,8,13,39,40,41,42,43,44,45] hs80 ?_
    refine .nH [0,2,4,7,8] (H':=((Z1 q0 t79.f0.f0 n81 t79.f0.f1.length t79.f0.f2 t79.f0.f3)::(Z8 n81 t79.f0.f1)::(Z10 q2 p2)::(n4,(.mem (e131 p1)))::(Z19 n8 t5.1)::T0)) (.cons 0 rfl (.cons 0 rfl (.cons 0 rfl (.cons 0 rfl (.cons 0 rfl (.drop (.refl _))))))) ?_
    exact⟨n81,t79.f0.f0,t79.f0.f1,t79.f0.f2,t79.f0.f3,rfl,rfl,h⟩
   refine .a 1 ?_
   refine .sH [0,2,4,7,8] (H':=((Z1 q0 t66.f0.f0 n68 t66.f0.f1.length t66.f0.f2 t66.f0.f3)::(Z8 n68 t66.f0.f1)::(Z10 q2 p2)::(n4,(.mem (e131 p1)))::(Z19 n8 t5.1)::T0)) (.cons 0 rfl (.cons 0 rfl (.cons 0 rfl (.cons 0 rfl (.cons 0 rfl (.drop (.refl _))))))) ?_
   exact⟨n68,t66.f0.f0,t66.f0.f1,t66.f0.f2,t66.f0.f3,rfl,rfl,h⟩
  rintro _ _ ⟨n70,x69,x71,x72,x73,rfl,rfl,h⟩
  rw[F94_c2.eq_1]at h
  refine .a 6 ?_
  rcases oi h with⟨c74,h⟩|⟨c74,h⟩
  ·refine .a 7 ?_
   obtain⟨t75,et75,h⟩:=ob h
   refine .callH [(.ptr q0 0),(eI64 t5.1.f0),(eI64 t5.1.f1)] ((Z1 q0 x69 n70 x71.length x72 x73)::(Z8 n70 x71)::(Z10 q2 p2)::(n4,(.mem (e131 p1)))::(Z19 n8 t5.1)::T0) _ rfl rfl rfl 54 rfl (by decide) ok121 ⟨rfl,rfl,rfl,rfl,rfl,rfl,trivial⟩ (.cons 0 rfl (.cons 0 rfl (.refl _))) (F121_spec et75) ?_
   rintro _ _ ⟨n77,rfl,hs76⟩
   refine .wH [0,2,4,7,8,48,49,50,51,52,53,54] hs76 ?_
   refine .nK [2,4,7,8] ?_
   exact⟨n77,t75.f0.f0,t75.f0.f1,t75.f0.f2,t75.f0.f3,rfl,rfl,h⟩
  refine .a 1 ?_
  refine .sK [2,4,7,8] ?_
  exact⟨n70,x69,x71,x72,x73,rfl,rfl,h⟩
 rintro _ _ ⟨n10,x9,x11,x12,x13,rfl,rfl,h⟩
 rw[F94_c0.eq_1]at h
 refine .seq ?_
 obtain⟨t14,et14,h⟩:=ob h
 obtain⟨g15,h⟩:=of_guard h
 obtain⟨g18,h⟩:=of_guard h
 refine .regEff (by rfl) (by decide+kernel) (fun (σ:Nat→Nat)=>([(.own q2 0 p2.length),(eI64 (p2.length:Int)),(.ptr n4 0),(eI64 p1.f0),(eI64 t14),(eI64 (w64 ((p2.length:Int) -t14))),(Z28 q2 ((w64 ((p2.length:Int) -t14)).toNat)),(e150 t5.1),(.fz 2 (([t5.1]:List S150).map e150)),(Z28 (σ 9) (p2.take ((w64 ((p2.length:Int) -t14)).toNat)++([t5.1]:List S150)).length),(Z28 (σ 9) (p2.take ((w64 ((p2.length:Int) -t14)).toNat)++([t5.1]:List S150)).length)]:List AV)) (fun (L:Nat→Bool) (σ:Nat→Nat)=>((Z1 q0 x9 n10 x11.length x12 x13)::(Z8 n10 x11)::(n4,(.mem (e131 p1)))::(Z19 n8 t5.1)::(bif L 9 then(((σ 9),(.mem (.ar 2 ((p2.take ((w64 ((p2.length:Int) -t14)).toNat)++([t5.1]:List S150)).map e150))))::T0)else((Z10 q2 p2)::T0)):Heap)) [(2,(.own q2 0 p2.length)),(4,(.ptr n4 0)),(7,(eI64 (p2.length:Int))),(8,(.ptr n8 0))] ⟨rfl,rfl,rfl,rfl,trivial⟩ (fun _=>rfl) (fun σ=>(.cons 0 rfl (.cons 0 rfl (.cons 1 rfl (.cons 1 rfl (.cons 0 rfl (.refl _))))))) ⟨?_,?_,?_,?_,?_,?_,?_,?_,?_,?_,?_,trivial⟩ (fun σ=>[(6,(Z28 (σ 9) (p2.take ((w64 ((p2.length:Int) -t14)).toNat)++([t5.1]:List S150)).length))]) (fun σ=>((Z1 q0 x9 n10 x11.length x12 x13)::(Z8 n10 x11)::(n4,(.mem (e131 p1)))::(Z19 n8 t5.1)::((σ 9),(.mem (.ar 2 ((p2.take ((w64 ((p2.length:Int) -t14)).toNat)++([t5.1]:List S150)).map e150))))::T0)) (fun σ=>⟨rfl,trivial⟩) (fun σ=>.refl _) (fun σ=>?_)
 ·refine .calm (fun _ _=>rfl) fun L σ hc hi hd=>?_
  have m6:L 6=false:=hc.neg (i:=0) (j:=6) rfl (by rfl) hi
  have m9:L 9=false:=hc.neg (i:=6) (j:=9) rfl (by rfl) m6
  refine .heq (H':=((Z1 q0 x9 n10 x11.length x12 x13)::(Z8 n10 x11)::(n4,(.mem (e131 p1)))::(Z19 n8 t5.1)::(Z10 q2 p2)::T0)) (by first|rfl|simp only[m9,cond_true,cond_false]) ?_
  refine .a 1 ?_
  exact .nE (d:=137) rfl ⟨⟨137,_,rfl,rfl,rfl⟩,.of_eq (by first|rfl|simp only[m9,cond_true,cond_false]) (.refl _)⟩
 ·refine .calm (fun _ _=>rfl) fun L σ hc hi hd=>?_
  refine .a 1 ?_
  exact .nE (d:=138) rfl ⟨⟨138,_,rfl,rfl,rfl⟩,.refl _⟩
 ·refine .calm (fun _ _=>rfl) fun L σ hc hi hd=>?_
  refine .a 1 ?_
  exact .nE (d:=139) rfl ⟨⟨139,_,rfl,rfl,rfl⟩,.refl _⟩
 ·refine .calm (fun _ _=>rfl) fun L σ hc hi hd=>?_
  refine .a 1 ?_
  exact .nE (d:=140) rfl ⟨⟨140,_,rfl,rfl,rfl⟩,.refl _⟩
 ·refine .calm (fun _ _=>rfl) fun L σ hc hi hd=>?_
  refine .wK [140] ?_
  refine .callS [(eI64 p1.f0)] (eI64 t14) 141 rfl (by decide) ok118 rfl rfl rfl ⟨rfl,rfl,trivial⟩ (F118_spec et14) ?_
  exact .nE (d:=141) rfl ⟨⟨141,_,rfl,rfl,rfl⟩,.refl _⟩
 ·refine .calm (fun _ _=>rfl) fun L σ hc hi hd=>?_
  refine .a 1 ?_
  exact .nE (d:=142) rfl ⟨⟨142,_,rfl,rfl,rfl⟩,.refl _⟩
 ·refine .calm (fun _ _=>rfl) fun L σ hc hi hd=>?_
  have m9:L 9=false:=hc.neg (i:=6) (j:=9) rfl (by rfl) hi
  refine .heq (H':=((Z1 q0 x9 n10 x11.length x12 x13)::(Z8 n10 x11)::(n4,(.mem (e131 p1)))::(Z19 n8 t5.1)::(Z10 q2 p2)::T0)) (by first|rfl|simp only[m9,cond_true,cond_false]) ?_
  refine .wK [137,142] ?_
  refine .c (x:=.own q2 0 ((w64 ((p2.length:Int) -t14)).toNat)) (.preO 4 rfl rfl rfl rfl g15 Try.underlying147 sz150) ?_
  exact .nE (d:=143) rfl ⟨⟨143,_,rfl,rfl,rfl⟩,.of_eq (by first|rfl|simp only[m9,cond_true,cond_false]) (.refl _)⟩
 ·refine .calm (fun _ _=>rfl) fun L σ hc hi hd=>?_
  refine .a 1 ?_
  exact .nE (d:=144) rfl ⟨⟨144,_,rfl,rfl,rfl⟩,.refl _⟩
 ·refine .calm (fun _ _=>rfl) fun L σ hc hi hd=>?_
  refine .wK [144] ?_
  refine .lit (Z:=(.st [(1,(eI64 (0:Int))),(1,(eI64 (0:Int)))])) (xs:=(([t5.1]:List S150).map e150)) (qs:=[(0,(e150 t5.1))]) rfl 145 rfl (by decide) rfl ⟨rfl,rfl,rfl,trivial⟩ Try.underlying147 sz150 zr150 lay150 rfl (by decide) (litOK (z:=2) [(e150 t5.1)] rfl ⟨⟨rfl,rfl⟩,trivial⟩) rfl fun n16=>?_
  refine .freezeS 0 [(145,(.fz 2 (([t5.1]:List S150).map e150)))] rfl ⟨fz_all rfl,trivial⟩ ?_
  exact .nE (d:=145) rfl ⟨⟨145,_,rfl,rfl,rfl⟩,.refl _⟩
 ·intro L σ hc hi hd
  refine .heq (H':=((Z1 q0 x9 n10 x11.length x12 x13)::(Z8 n10 x11)::(n4,(.mem (e131 p1)))::(Z19 n8 t5.1)::(Z10 q2 p2)::T0)) (by first|rfl|simp only[hi,cond_true,cond_false]) ?_
  refine .wK [143,145] ?_
  refine .appendCut (l:=p2) (m:=([t5.1]:List S150)) 4 146 rfl (by decide) rfl rfl rfl (by omega) rfl rfl Src.fz Try.underlying147 Try.underlying147 sz150 by150 zr150 rfl g18 (by decide) fun n17=>?_
  have a9:addL L 9 9=true:=rfl
  have u9:upd σ 9 n17 9=n17:=rfl
  have m10:L 10=false:=hc.neg (i:=9) (j:=10) rfl (by rfl) hi
  exact .nE (d:=146) rfl ⟨(upd σ 9 n17),(fun j hj=>match j,hj with |0,_=>rfl|1,_=>rfl|2,_=>rfl|3,_=>rfl|4,_=>rfl|5,_=>rfl|6,_=>rfl|7,_=>rfl|8,_=>rfl|9,hj=>Bool.noConfusion (hj.symm.trans hi)|10,hj=>Bool.noConfusion (hj.symm.trans m10)|_+11,_=>rfl),(fun d' hd'=>⟨_,rfl,by cases hd';rfl⟩),.of_eq (B:=((Z1 q0 x9 n10 x11.length x12 x13)::(Z8 n10 x11)::(n4,(.mem (e131 p1)))::(Z19 n8 t5.1)::(Z10 n17 (p2.take ((w64 ((p2.length:Int) -t14)).toNat)++([t5.1]:List S150)))::T0)) (by simp only[a9,u9,cond_true,cond_false]) (.refl _)⟩
 ·refine .calm (fun _ _=>rfl) fun L σ hc hi hd=>?_
  have y9:L 9=true:=on_get hd (i:=9) (by rfl)
  refine .heq (H':=((Z1 q0 x9 n10 x11.length x12 x13)::(Z8 n10 x11)::(n4,(.mem (e131 p1)))::(Z19 n8 t5.1)::((σ 9),(.mem (.ar 2 ((p2.take ((w64 ((p2.length:Int) -t14)).toNat)++([t5.1]:List S150)).map e150))))::T0)) (by first|rfl|simp only[y9,cond_true,cond_false]) ?_
  refine .a 1 ?_
  exact .nE (d:=6) rfl ⟨⟨6,_,rfl,rfl,rfl⟩,.of_eq (by first|rfl|simp only[y9,cond_true,cond_false]) (.refl _)⟩
 generalize σ 9=n17
 refine .nH [6] (H':=((Z1 q0 x9 n10 x11.length x12 x13)::(Z8 n10 x11)::(Z10 n17 (p2.take ((w64 ((p2.length:Int) -t14)).toNat)++([t5.1]:List S150)))::T0)) (.cons 0 rfl (.cons 0 rfl (.cons 2 rfl (.drop (.drop (.refl _)))))) ?_
 refine .rK [6] ?_
 cases h
 exact⟨[(Z28 n17 (p2.take ((w64 ((p2.length:Int) -t14)).toNat)++([t5.1]:List S150)).length)],⟨rfl,rfl,trivial⟩,n17,n10,rfl,(.cons 2 rfl (.cons 0 rfl (.cons 0 rfl (.refl _))))⟩
def F74_c0 (k:Nat) (x6:Int) (x8:(List S152)) (x9:Int) (x10:Int) (x12:(List S150)):Option (S121×Int):=
 if 0≤(0:Int)∧(0:Int)<(x12.length:Int)then if 0≤(0:Int)∧(0:Int)<(x12.length:Int)then some ((S121.mk x6 x8 ((lget x12 (0:Int)).f0) ((lget x12 (0:Int)).f1)),(0:Int))
 else none
 else none
def F74_l1 (k:Nat) (p0:(List S131)):Nat→Int→(List S152)→Int→Int→(List S150)→Int→Option (S121×Int)
 | 0,_,_,_,_,_,_=>none
 | j+1,x15,x17,x18,x19,x21,x22=>
   if x22<(p0.length:Int)then if 0≤x22∧x22<(p0.length:Int)then(F94 k (S146.mk (S121.mk x15 x17 x18 x19)) (lget p0 x22) x21).bind fun t28=>
   (F74_l1 k p0 j) t28.2.f0.f0 t28.2.f0.f1 t28.2.f0.f2 t28.2.f0.f3 t28.1 (w64 (x22+(1:Int)))
   else none
   else F74_c0 k x15 x17 x18 x19 x21
def F74 (k:Nat) (p0:(List S131)):Option (S121×Int):=
 (F93 k p0).bind fun t3=>
 if t3≠(0:Int)then some ((S121.mk (0:Int) ([]:List S152) (0:Int) (0:Int)),t3)
 else F74_l1 k p0 k (0:Int) ([]:List S152) (0:Int) (0:Int) ([]:List S150) (0:Int)
theorem F74_spec {k:Nat} {p0:(List S131)} {r:(S121×Int)} (h:F74 k p0=some r):Spec Try.prog 74 [(.fz 5 (p0.map e131))] (.tup [(e121 r.1),(eI64 r.2)]):=by
 rw[F74.eq_1]at h
 refine Spec.intro (res:=[.cell 2 121,.tmp 3]) Try.func74 rfl rfl rfl (Nat.le_of_ble_eq_true rfl) ?_
 refine .sr ?_
 refine .alloc rfl 2 rfl (by decide) rfl zr121 lay121 fun n2=>?_
 refine .a 6 ?_
 obtain⟨t3,et3,h⟩:=ob h
 refine .callS [(.fz 5 (p0.map e131))] (eI64 t3) 10 rfl (by decide) ok93 rfl rfl rfl ⟨rfl,rfl,trivial⟩ (F93_spec et3) ?_
 refine .a 7 ?_
 rcases oi h with⟨c4,h⟩|⟨c4,h⟩
 ·refine .a 3 ?_
  refine .c (x:=(Z7 (0:Int))) (.build (qs:=[]) rfl trivial Try.underlying121 rfl zr121 lay121 .nil rfl) ?_
  refine .a 1 ?_
  refine .store 0 rfl rfl rfl rfl rfl rfl (.cast .here rfl) rfl rfl sz121 rfl ?_
  refine .a 1 ?_
  refine .nK [2,3] ?_
  refine .coeFld (X':=(Z30 (0:Int) ([]:List S152) (0:Int) (0:Int))) 0 rfl (.cast (.fldS (.fld0 .here)) rfl) rfl (nil_fz 7) rfl rfl ?_
  refine .rK [2,3] ?_
  cases h
  exact⟨[(e121 (S121.mk (0:Int) ([]:List S152) (0:Int) (0:Int))),(eI64 t3)],⟨⟨_,0,rfl,rfl,ag121,sz121⟩,rfl,rfl,trivial⟩,rfl⟩
 refine .a 4 ?_
 refine .c (x:=(.st [(4,(Z7 (0:Int)))])) (.build (qs:=[]) rfl trivial Try.underlying146 rfl zr146 lay146 .nil rfl) ?_
 refine .box rfl 16 rfl (by decide) rfl rfl rfl fun n5=>?_
 refine .a 1 ?_
 refine .nS [0,2,5] [1,0] ?_
 refine .a 3 ?_
 refine .nK [0,2,5,6] ?_
 refine .seq_mid (fun ρ H=>∃ (n7:Nat) (n11:Nat) (x6:Int) (x8:(List S152)) (x9:Int) (x10:Int) (x12:(List S150)),ρ=[(2,(.ptr n2 0)),(5,(.ptr n5 0)),(6,(.own n11 0 x12.length))]∧H=[(Z31 n2 (0:Int)),(Z1 n5 x6 n7 x8.length x9 x10),(Z8 n7 x8),(Z10 n11 x12)]∧F74_c0 k x6 x8 x9 x10 x12=some r) ?_ ?_
 ·refine .a 7 ?_
  refine .nilOwn 6 2 rfl fun n32=>?_
  refine .nilOwnFld 2 7 (fun n33=>(.st [(4,(.st [(1,(eI64 (0:Int))),(1,(.own n33 0 0)),(1,(eI64 (0:Int))),(1,(eI64 (0:Int)))]))])) rfl (fun _=>(.cast (.fld0 (.fldS (.fld0 .here))) rfl)) (fun _=>rfl) (fun _=>rfl) fun n33=>?_
  refine .wH [2,5,6,17,18,19] (H':=[(Z31 n2 (0:Int)),(Z1 n5 (0:Int) n33 ([]:List S152).length (0:Int) (0:Int)),(Z8 n33 ([]:List S152)),(Z10 n32 ([]:List S150))]) (.cons 2 rfl (.cons 2 rfl (.cons 0 rfl (.cons 0 rfl (.nil _))))) ?_
  refine .loop (fun kq ρ H=>∃ (n16:Nat) (n20:Nat) (x15:Int) (x17:(List S152)) (x18:Int) (x19:Int) (x21:(List S150)) (x22:Int),ρ=[(2,(.ptr n2 0)),(5,(.ptr n5 0)),(6,(.own n20 0 x21.length)),(17,(.fz 5 (p0.map e131))),(18,(eI64 (p0.length:Int))),(19,(eI64 x22))]∧H=[(Z31 n2 (0:Int)),(Z1 n5 x15 n16 x17.length x18 x19),(Z8 n16 x17),(Z10 n20 x21)]∧F74_l1 k p0 kq x15 x17 x18 x19 x21 x22=some r) k ⟨n33,n32,(0:Int),([]:List S152),(0:Int),(0:Int),([]:List S150),(0:Int),rfl,rfl,h⟩ ?_
  rintro kq24 _ _ ⟨n16,n20,x15,x17,x18,x19,x21,x22,rfl,rfl,h⟩
  cases kq24 with
  | zero=>rw[F74_l1.eq_1]at h;cases h
  | succ kq24=>
  rw[F74_l1.eq_2]at h
  generalize hrec23:F74_l1 k p0 kq24=rec23 at h
  refine .a 5 ?_
  rcases oi h with⟨c25,h⟩|⟨c25,h⟩
  ·refine .a 6 ?_
   obtain⟨g26,h⟩:=of_guard h
   refine .a 2 ?_
   refine .alloc rfl 8 rfl (by decide) rfl zr131 lay131 fun n27=>?_
   refine .store 0 rfl rfl rfl rfl rfl rfl (.cast .here rfl) rfl rfl sz131 rfl ?_
   refine .nS [2,5,6,8,17,18,19] [1,2,3,4,0] ?_
   refine .a 4 ?_
   obtain⟨t28,et28,h⟩:=ob h
   refine .callH [(.ptr n5 0),(e131 (lget p0 x22)),(.own n20 0 x21.length)] [(Z1 n5 x15 n16 x17.length x18 x19),(Z8 n16 x17),(Z10 n20 x21),(Z31 n2 (0:Int)),(n27,(.mem (e131 (lget p0 x22))))] _ rfl rfl rfl 26 rfl (by decide) ok94 ⟨rfl,rfl,rfl,rfl,rfl,rfl,trivial⟩ (.cons 1 rfl (.cons 1 rfl (.cons 1 rfl (.refl _)))) (F94_spec et28) ?_
   rintro _ _ ⟨n30,n31,rfl,hs29⟩
   refine .wH [2,5,8,17,18,19,23,24,26] hs29 ?_
   refine .a 1 ?_
   refine .nS [2,5,6,17,18,19] [3,1,2,0] ?_
   refine .a 3 ?_
   refine .nK [2,5,6,17,18,19] ?_
   exact⟨kq24,Nat.lt_succ_self _,n31,n30,t28.2.f0.f0,t28.2.f0.f1,t28.2.f0.f2,t28.2.f0.f3,t28.1,(w64 (x22+(1:Int))),rfl,rfl,by rw[hrec23];exact h⟩
  refine .a 1 ?_
  refine .eK [2,5,6] ?_
  exact⟨n16,n20,x15,x17,x18,x19,x21,rfl,rfl,h⟩
 rintro _ _ ⟨n7,n11,x6,x8,x9,x10,x12,rfl,rfl,h⟩
 rw[F74_c0.eq_1]at h
 refine .seq ?_
 obtain⟨g13,h⟩:=of_guard h
 obtain⟨g14,h⟩:=of_guard h
 refine .regEff (by rfl) (by decide+kernel) (fun (σ:Nat→Nat)=>([(.ptr n5 0),(.ptr n5 0),(.own n11 0 x12.length),(.ptr n11 ((0:Int).toNat*2+0)),(.ptr n11 ((0:Int).toNat*2+0+0)),(eI64 ((lget x12 (0:Int)).f0)),(.own n11 0 x12.length),(.ptr n11 ((0:Int).toNat*2+0)),(.ptr n11 ((0:Int).toNat*2+0+1)),(eI64 ((lget x12 (0:Int)).f1)),(.ptr n5 0),(.ptr n5 0),(.ptr n5 2),(.fl undef),(.ptr n5 0),(.ptr n5 0),(.ptr n5 3),(.fl undef)]:List AV)) (fun (L:Nat→Bool) (σ:Nat→Nat)=>((Z31 n2 (0:Int))::(Z8 n7 x8)::(Z10 n11 x12)::(bif L 13 then(bif L 17 then((Z1 n5 x6 n7 x8.length ((lget x12 (0:Int)).f0) ((lget x12 (0:Int)).f1))::[])else((Z1 n5 x6 n7 x8.length ((lget x12 (0:Int)).f0) x10)::[]))else((Z1 n5 x6 n7 x8.length x9 x10)::[])):Heap)) [(2,(.ptr n2 0)),(5,(.ptr n5 0)),(6,(.own n11 0 x12.length))] ⟨rfl,rfl,rfl,trivial⟩ (fun _=>rfl) (fun σ=>(.cons 0 rfl (.cons 1 rfl (.cons 1 rfl (.cons 0 rfl (.refl _)))))) ⟨?_,?_,?_,?_,?_,?_,?_,?_,?_,?_,?_,?_,?_,?_,?_,?_,?_,?_,trivial⟩ (fun σ=>[(2,(.ptr n2 0)),(5,(.ptr n5 0))]) (fun σ=>((Z31 n2 (0:Int))::(Z8 n7 x8)::(Z10 n11 x12)::(Z1 n5 x6 n7 x8.length ((lget x12 (0:Int)).f0) ((lget x12 (0:Int)).f1))::[])) (fun σ=>⟨rfl,rfl,trivial⟩) (fun σ=>.refl _) (fun σ=>?_)
 ·refine .calm (fun _ _=>rfl) fun L σ hc hi hd=>?_
  have m13:L 13=false:=hc.neg (i:=0) (j:=13) rfl (by rfl) hi
  have m17:L 17=false:=hc.neg (i:=0) (j:=17) rfl (by rfl) hi
  refine .heq (H':=((Z31 n2 (0:Int))::(Z8 n7 x8)::(Z10 n11 x12)::(Z1 n5 x6 n7 x8.length x9 x10)::[])) (by first|rfl|simp only[m13,m17,cond_true,cond_false]) ?_
  refine .a 1 ?_
  exact .nE (d:=28) rfl ⟨⟨28,_,rfl,rfl,rfl⟩,.of_eq (by first|rfl|simp only[m13,m17,cond_true,cond_false]) (.refl _)⟩
 ·refine .calm (fun _ _=>rfl) fun L σ hc hi hd=>?_
  have m17:L 17=false:=hc.neg (i:=1) (j:=17) rfl (by rfl) hi
  cases b13:L 13 with
  | true=>
    refine .heq (H':=((Z31 n2 (0:Int))::(Z8 n7 x8)::(Z10 n11 x12)::(Z1 n5 x6 n7 x8.length ((lget x12 (0:Int)).f0) x10)::[])) (by first|rfl|simp only[b13,m17,cond_true,cond_false]) ?_
    refine .a 1 ?_
    exact .nE (d:=29) rfl ⟨⟨29,_,rfl,rfl,rfl⟩,.of_eq (by first|rfl|simp only[b13,m17,cond_true,cond_false]) (.refl _)⟩
  | false=>
    refine .heq (H':=((Z31 n2 (0:Int))::(Z8 n7 x8)::(Z10 n11 x12)::(Z1 n5 x6 n7 x8.length x9 x10)::[])) (by first|rfl|simp only[b13,m17,cond_true,cond_false]) ?_
    refine .a 1 ?_
    exact .nE (d:=29) rfl ⟨⟨29,_,rfl,rfl,rfl⟩,.of_eq (by first|rfl|simp only[b13,m17,cond_true,cond_false]) (.refl _)⟩
 ·refine .calm (fun _ _=>rfl) fun L σ hc hi hd=>?_
  refine .a 1 ?_
  exact .nE (d:=30) rfl ⟨⟨30,_,rfl,rfl,rfl⟩,.refl _⟩
 ·refine .calm (fun _ _=>rfl) fun L σ hc hi hd=>?_
  refine .a 1 ?_
  exact .nE (d:=31) rfl ⟨⟨31,_,rfl,rfl,rfl⟩,.refl _⟩
 ·refine .calm (fun _ _=>rfl) fun L σ hc hi hd=>?_
  refine .a 1 ?_
  exact .nE (d:=32) rfl ⟨⟨32,_,rfl,rfl,rfl⟩,.refl _⟩
 ·refine .calm (fun _ _=>rfl) fun L σ hc hi hd=>?_
  refine .wK [32] ?_
  refine .c (.load 2 rfl rfl rfl (.cast (.lidx (0:Int) g13.1 g13.2 (.fld0 .here)) (by omega)) ag3 sz3) ?_
  exact .nE (d:=33) rfl ⟨⟨33,_,rfl,rfl,rfl⟩,.refl _⟩
 ·refine .calm (fun _ _=>rfl) fun L σ hc hi hd=>?_
  refine .a 1 ?_
  exact .nE (d:=34) rfl ⟨⟨34,_,rfl,rfl,rfl⟩,.refl _⟩
 ·refine .calm (fun _ _=>rfl) fun L σ hc hi hd=>?_
  refine .a 1 ?_
  exact .nE (d:=35) rfl ⟨⟨35,_,rfl,rfl,rfl⟩,.refl _⟩
 ·refine .calm (fun _ _=>rfl) fun L σ hc hi hd=>?_
  refine .a 1 ?_
  exact .nE (d:=36) rfl ⟨⟨36,_,rfl,rfl,rfl⟩,.refl _⟩
 ·refine .calm (fun _ _=>rfl) fun L σ hc hi hd=>?_
  refine .wK [36] ?_
  refine .c (.load 2 rfl rfl rfl (.cast (.lidx (0:Int) g14.1 g14.2 (.fldS (.fld0 .here))) (by omega)) ag3 sz3) ?_
  exact .nE (d:=37) rfl ⟨⟨37,_,rfl,rfl,rfl⟩,.refl _⟩
 ·refine .calm (fun _ _=>rfl) fun L σ hc hi hd=>?_
  have m11:L 11=false:=hc.neg (i:=10) (j:=11) rfl (by rfl) hi
  have m12:L 12=false:=hc.neg (i:=11) (j:=12) rfl (by rfl) m11
  have m13:L 13=false:=hc.neg (i:=12) (j:=13) rfl (by rfl) m12
  have m17:L 17=false:=hc.neg (i:=10) (j:=17) rfl (by rfl) hi
  refine .heq (H':=((Z31 n2 (0:Int))::(Z8 n7 x8)::(Z10 n11 x12)::(Z1 n5 x6 n7 x8.length x9 x10)::[])) (by first|rfl|simp only[m13,m17,cond_true,cond_false]) ?_
  refine .a 1 ?_
  exact .nE (d:=38) rfl ⟨⟨38,_,rfl,rfl,rfl⟩,.of_eq (by first|rfl|simp only[m13,m17,cond_true,cond_false]) (.refl _)⟩
 ·refine .calm (fun _ _=>rfl) fun L σ hc hi hd=>?_
  have m12:L 12=false:=hc.neg (i:=11) (j:=12) rfl (by rfl) hi
  have m13:L 13=false:=hc.neg (i:=12) (j:=13) rfl (by rfl) m12
  have m17:L 17=false:=hc.neg (i:=11) (j:=17) rfl (by rfl) hi
  refine .heq (H':=((Z31 n2 (0:Int))::(Z8 n7 x8)::(Z10 n11 x12)::(Z1 n5 x6 n7 x8.length x9 x10)::[])) (by first|rfl|simp only[m13,m17,cond_true,cond_false]) ?_
  refine .a 1 ?_
  exact .nE (d:=39) rfl ⟨⟨39,_,rfl,rfl,rfl⟩,.of_eq (by first|rfl|simp only[m13,m17,cond_true,cond_false]) (.refl _)⟩
 ·refine .calm (fun _ _=>rfl) fun L σ hc hi hd=>?_
  have m13:L 13=false:=hc.neg (i:=12) (j:=13) rfl (by rfl) hi
  have m17:L 17=false:=hc.neg (i:=12) (j:=17) rfl (by rfl) hi
  refine .heq (H':=((Z31 n2 (0:Int))::(Z8 n7 x8)::(Z10 n11 x12)::(Z1 n5 x6 n7 x8.length x9 x10)::[])) (by first|rfl|simp only[m13,m17,cond_true,cond_false]) ?_
  refine .a 1 ?_
  exact .nE (d:=40) rfl ⟨⟨40,_,rfl,rfl,rfl⟩,.of_eq (by first|rfl|simp only[m13,m17,cond_true,cond_false]) (.refl _)⟩
 ·intro L σ hc hi hd
  have m17:L 17=false:=hc.neg (i:=13) (j:=17) rfl (by rfl) hi
  refine .heq (H':=((Z31 n2 (0:Int))::(Z8 n7 x8)::(Z10 n11 x12)::(Z1 n5 x6 n7 x8.length x9 x10)::[])) (by first|rfl|simp only[hi,m17,cond_true,cond_false]) ?_
  refine .wK [33,40] ?_
  refine .store 3 rfl rfl rfl rfl rfl rfl (.cast (.fld0 (.fldS (.fldS (.fld0 .here)))) rfl) rfl rfl sz3 rfl ?_
  have a13:addL L 13 13=true:=rfl
  have a17:addL L 13 17=false:=m17
  exact .n0 ⟨σ,(fun _ _=>rfl),(fun d' hd'=>by cases hd'),.of_eq (B:=((Z31 n2 (0:Int))::(Z8 n7 x8)::(Z10 n11 x12)::(Z1 n5 x6 n7 x8.length ((lget x12 (0:Int)).f0) x10)::[])) (by simp only[a13,a17,cond_true,cond_false]) (.refl _)⟩
 ·refine .calm (fun _ _=>rfl) fun L σ hc hi hd=>?_
  have y13:L 13=true:=on_get hd (i:=13) (by rfl)
  have m15:L 15=false:=hc.neg (i:=14) (j:=15) rfl (by rfl) hi
  have m16:L 16=false:=hc.neg (i:=15) (j:=16) rfl (by rfl) m15
  have m17:L 17=false:=hc.neg (i:=16) (j:=17) rfl (by rfl) m16
  refine .heq (H':=((Z31 n2 (0:Int))::(Z8 n7 x8)::(Z10 n11 x12)::(Z1 n5 x6 n7 x8.length ((lget x12 (0:Int)).f0) x10)::[])) (by first|rfl|simp only[y13,m17,cond_true,cond_false]) ?_
  refine .a 1 ?_
  exact .nE (d:=41) rfl ⟨⟨41,_,rfl,rfl,rfl⟩,.of_eq (by first|rfl|simp only[y13,m17,cond_true,cond_false]) (.refl _)⟩
 ·refine .calm (fun _ _=>rfl) fun L σ hc hi hd=>?_
  have y13:L 13=true:=on_get hd (i:=13) (by rfl)
  have m16:L 16=false:=hc.neg (i:=15) (j:=16) rfl (by rfl) hi
  have m17:L 17=false:=hc.neg (i:=16) (j:=17) rfl (by rfl) m16
  refine .heq (H':=((Z31 n2 (0:Int))::(Z8 n7 x8)::(Z10 n11 x12)::(Z1 n5 x6 n7 x8.length ((lget x12 (0:Int)).f0) x10)::[])) (by first|rfl|simp only[y13,m17,cond_true,cond_false]) ?_
  refine .a 1 ?_
  exact .nE (d:=42) rfl ⟨⟨42,_,rfl,rfl,rfl⟩,.of_eq (by first|rfl|simp only[y13,m17,cond_true,cond_false]) (.refl _)⟩
 ·refine .calm (fun _ _=>rfl) fun L σ hc hi hd=>?_
  have y13:L 13=true:=on_get hd (i:=13) (by rfl)
  have m17:L 17=false:=hc.neg (i:=16) (j:=17) rfl (by rfl) hi
  refine .heq (H':=((Z31 n2 (0:Int))::(Z8 n7 x8)::(Z10 n11 x12)::(Z1 n5 x6 n7 x8.length ((lget x12 (0:Int)).f0) x10)::[])) (by first|rfl|simp only[y13,m17,cond_true,cond_false]) ?_
  refine .a 1 ?_
  exact .nE (d:=43) rfl ⟨⟨43,_,rfl,rfl,rfl⟩,.of_eq (by first|rfl|simp only[y13,m17,cond_true,cond_false]) (.refl _)⟩
 ·intro L σ hc hi hd
  have y13:L 13=true:=on_get hd (i:=13) (by rfl)
  refine .heq (H':=((Z31 n2 (0:Int))::(Z8 n7 x8)::(Z10 n11 x12)::(Z1 n5 x6 n7 x8.length ((lget x12 (0:Int)).f0) x10)::[])) (by first|rfl|simp only[hi,y13,cond_true,cond_false]) ?_
  refine .wK [37,43] ?_
  refine .store 3 rfl rfl rfl rfl rfl rfl (.cast (.fld0 (.fldS (.fldS (.fldS (.fld0 .here))))) rfl) rfl rfl sz3 rfl ?_
  have a13:addL L 17 13=true:=y13
  have a17:addL L 17 17=true:=rfl
  exact .n0 ⟨σ,(fun _ _=>rfl),(fun d' hd'=>by cases hd'),.of_eq (B:=((Z31 n2 (0:Int))::(Z8 n7 x8)::(Z10 n11 x12)::(Z1 n5 x6 n7 x8.length ((lget x12 (0:Int)).f0) ((lget x12 (0:Int)).f1))::[])) (by simp only[a13,a17,cond_true,cond_false]) (.refl _)⟩
 refine .nS [2,5] [0,3,1] ?_
 refine .a 5 ?_
 refine .freezeFld (X':=(.st [(4,(Z30 x6 x8 ((lget x12 (0:Int)).f0) ((lget x12 (0:Int)).f1)))])) (els':=(x8.map e152)) 2 1 rfl rfl (.cast (.fld0 (.fldS (.fld0 .here))) rfl) (by simp) (by rw[own_all]) rfl rfl (by decide) ?_
 refine .c (x:=e121 (S121.mk x6 x8 ((lget x12 (0:Int)).f0) ((lget x12 (0:Int)).f1))) (.load 1 rfl rfl rfl (.cast (.fld0 .here) rfl) ag121 sz121) ?_
 refine .store 0 rfl rfl rfl rfl rfl rfl (.cast .here rfl) rfl rfl sz121 rfl ?_
 refine .a 1 ?_
 refine .nS [2,3] [0] ?_
 refine .rK [2,3] ?_
 cases h
 exact⟨[(e121 (S121.mk x6 x8 ((lget x12 (0:Int)).f0) ((lget x12 (0:Int)).f1))),(eI64 (0:Int))],⟨⟨_,0,rfl,rfl,ag121,sz121⟩,rfl,rfl,trivial⟩,rfl⟩
end Go.Avl.T7
