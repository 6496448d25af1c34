/- Parts: T8f103, T8f105, T8f78, T8f46, T8f41, T8f13, T8f43, T8f42, T8f14, T8f17, T8f18, T8f48, T8f47, T8f19. -/
import Derived.Test.YtpkgpmmcbpfenaaGreatAF1
import Derived.Test.YtpkgpmmcbpfenaaGreatAF7
import Derived.Test.YtpkgpmmcbpfenaaGreatAF6
import Derived.Test.YtpkgpmmcbpfenaaGreatAv4
namespace Go.Avl.T8
open Go Go.RowKit Go.Proofs Go.Avl
set_option linter.unusedVariables false
set_option maxRecDepth 100000
set_option maxHeartbeats 4000000
attribute [local irreducible] AW AO AQ AY Aq AH
def Ix (k:Nat) (x3:(List (List AE))):Option (List (List AE)):=
 some (x3)
def B3 (k:Nat) (p0:(List AE)):Nat→(List (List AE))→Int→Int→Option (List (List AE))
 | 0,_,_,_=>none
 | j+1,x7,x8,x9=>
   if(0:Int)<x9 then(Vd k p0 (AG (x8 - (1:Int)))).bind fun t13=>
   if 0≤t13∧t13≤x8∧x8≤(p0.length:Int)then if(([(EB p0 t13 x8)]:List (List AE))++x7).length*24≤140737488355328 then(B3 k p0 j) (([(EB p0 t13 x8)]:List (List AE))++x7) t13 (AG (x9 - (1:Int)))
   else none
   else none
   else Ix k x7
def TT (k:Nat) (p0:(List AE)):Option (List (List AE)):=
 if 0≤(AG ((p0.length:Int) - (1:Int)))∧(AG ((p0.length:Int) - (1:Int)))<(p0.length:Int)then(Ra k ((AA p0 (AG ((p0.length:Int) - (1:Int)))).f0)).bind fun t5=>
 B3 k p0 k ([]:List (List AE)) (AG ((p0.length:Int) - (1:Int))) t5
 else none
theorem Rd {k:Nat} {p0:(List AE)} {r:(List (List AE))} (h:TT k p0=some r):AY Tryz.prog 103 [(.fz 5 (p0.map AM))] (bx r):=by
 rw[TT.eq_1]at h;refine AY.intro (res:=[.tmp 2]) Tryz.func103 rfl rfl rfl (Nat.le_of_ble_eq_true rfl) ?_;refine .a 19 ?_;refine .nK [0,3,4,5] ?_;refine .seq_mid (fun ρ H=>∃ (n2:Nat) (x3:(List (List AE))),ρ=[(4,(.own n2 0 x3.length))]∧H=[(n2,(.mem (.ar 1 (x3.map Fq))))]∧Ix k x3=some r) ?_ ?_
 ·refine .a 4 ?_;obtain⟨g4,h⟩:=AC h;refine .a 1 ?_;refine .c (.fldRp rfl rfl Tryz.underlying122 rfl Bb (.cast (.fld0 .here) rfl)) ?_;refine .a 1 ?_;obtain⟨t5,et5,h⟩:=ob h;refine .callS [(AB ((AA p0 (AG ((p0.length:Int) - (1:Int)))).f0))] (AB t5) 17 rfl (by decide) Wn rfl rfl rfl ⟨rfl,rfl,trivial⟩ (Kz et5) ?_;refine .a 3 ?_;refine .nilOwn 4 1 rfl fun n18=>?_;refine .wK [0,4,5,6] ?_;refine .loop (fun kq ρ H=>∃ (n6:Nat) (x7:(List (List AE))) (x8:Int) (x9:Int),ρ=[(0,(.fz 5 (p0.map AM))),(4,(.own n6 0 x7.length)),(5,(AB x8)),(6,(AB x9))]∧H=[(n6,(.mem (.ar 1 (x7.map Fq))))]∧B3 k p0 kq x7 x8 x9=some r) k ⟨n18,([]:List (List AE)),(AG ((p0.length:Int) - (1:Int))),t5,rfl,rfl,h⟩ ?_;rintro kq11 _ _ ⟨n6,x7,x8,x9,rfl,rfl,h⟩
  cases kq11 with
  | zero=>rw[B3.eq_1]at h;cases h
  | succ kq11=>
  rw[B3.eq_2]at h;generalize hrec10:B3 k p0 kq11=rec10 at h;refine .a 6 ?_;rcases oi h with⟨c12,h⟩|⟨c12,h⟩
  ·refine .a 9 ?_;obtain⟨t13,et13,h⟩:=ob h;refine .callS [(.fz 5 (p0.map AM)),(AB (AG (x8 - (1:Int))))] (AB t13) 25 rfl (by decide) aZ rfl rfl rfl ⟨rfl,rfl,rfl,rfl,trivial⟩ (Rk et13) ?_;refine .a 7 ?_;obtain⟨g14,h⟩:=AC h;refine .c (x:=.fz 5 ((EB p0 t13 x8).map AM)) (.sliceL rfl rfl rfl rfl g14 Tryz.underlying75 BS) ?_;refine .lit (Z:=(.fl (.slice none 0 0))) (xs:=(([(EB p0 t13 x8)]:List (List AE)).map Fq)) (qs:=[(0,(Ba (EB p0 t13 x8)))]) rfl 30 rfl (by decide) rfl ⟨rfl,rfl,rfl,trivial⟩ Tryz.underlying164 OJ Pa K8 rfl (by decide) (An (z:=1) [(Ba (EB p0 t13 x8))] rfl ⟨⟨rfl,rfl⟩,trivial⟩) rfl fun n15=>?_;refine .a 1 ?_;obtain⟨g17,h⟩:=AC h;refine .appendL (l:=([(EB p0 t13 x8)]:List (List AE))) (m:=x7) 0 32 rfl (by decide) rfl rfl rfl rfl rfl (CS.ownL (f:=Fq) (l:=x7) 1 rfl) Tryz.underlying164 Tryz.underlying164 OJ bq Pa rfl g17 (by decide) fun n16=>?_;refine .a 1 ?_;refine .nS [0,4,6,7] [0] ?_;refine .a 8 ?_;refine .nK [0,4,5,6] ?_;exact⟨kq11,Nat.lt_succ_self _,n16,(([(EB p0 t13 x8)]:List (List AE))++x7),t13,(AG (x9 - (1:Int))),rfl,rfl,by rw[hrec10];exact h⟩
  refine .a 1 ?_;refine .eK [4] ?_;exact⟨n6,x7,rfl,rfl,h⟩
 rintro _ _ ⟨n2,x3,rfl,rfl,h⟩;rw[Ix.eq_1]at h;refine .a 4 ?_;refine .nK [2] ?_;refine .freezeS 0 [(2,(.fz 1 (x3.map Fq)))] rfl ⟨Aj rfl,trivial⟩ ?_;refine .rK [2] ?_;have hr:=Option.some.inj h;subst hr;exact⟨[(.fz 1 (x3.map Fq))],⟨rfl,rfl,trivial⟩,rfl⟩
def M2 (k:Nat) (x4:(List Bool)):Option (List Bool):=
 some (x4)
def Hb (k:Nat) (rec8:((List Bool)→Int→Option (List Bool))) (x7:Int) (x12:(List Bool)):Option (List Bool):=
 rec8 x12 (AG (x7+(1:Int)))
def C3 (k:Nat) (p0:(List Bool)) (p1:(List Bool)):Nat→(List Bool)→Int→Option (List Bool)
 | 0,_,_=>none
 | j+1,x6,x7=>
   if x7<(p0.length:Int)then if 0≤x7∧x7<(p0.length:Int)then if(AA p0 x7)=true then if(x6++([true]:List Bool)).length*1≤140737488355328 then Hb k (C3 k p0 p1 j) x7 (x6++([true]:List Bool))
   else none
   else if 0≤x7∧x7<(p1.length:Int)then if(x6++([(AA p1 x7)]:List Bool)).length*1≤140737488355328 then Hb k (C3 k p0 p1 j) x7 (x6++([(AA p1 x7)]:List Bool))
   else none
   else none
   else none
   else M2 k x6
def O9 (k:Nat) (p0:(List Bool)) (p1:(List Bool)):Option (List Bool):=
 C3 k p0 p1 k ([]:List Bool) (0:Int)
theorem Hl {k:Nat} {p0:(List Bool)} {p1:(List Bool)} {r:(List Bool)} (h:O9 k p0 p1=some r):AY Tryz.prog 105 [(.fz 1 (p0.map AD)),(.fz 1 (p1.map AD))] (G7 r):=by
 rw[O9.eq_1]at h;refine AY.intro (res:=[.tmp 4]) Tryz.func105 rfl rfl rfl (Nat.le_of_ble_eq_true rfl) ?_;refine .a 7 ?_;refine .nK [0,1,5] ?_;refine .seq_mid (fun ρ H=>∃ (n3:Nat) (x4:(List Bool)),ρ=[(5,(.own n3 0 x4.length))]∧H=[(Z9 n3 x4)]∧M2 k x4=some r) ?_ ?_
 ·refine .a 5 ?_;refine .nilOwn 5 1 rfl fun n22=>?_;refine .wK [0,1,5,6] ?_;refine .loop (fun kq ρ H=>∃ (n5:Nat) (x6:(List Bool)) (x7:Int),ρ=[(0,(.fz 1 (p0.map AD))),(1,(.fz 1 (p1.map AD))),(5,(.own n5 0 x6.length)),(6,(AB x7))]∧H=[(Z9 n5 x6)]∧C3 k p0 p1 kq x6 x7=some r) k ⟨n22,([]:List Bool),(0:Int),rfl,rfl,h⟩ ?_;rintro kq9 _ _ ⟨n5,x6,x7,rfl,rfl,h⟩
  cases kq9 with
  | zero=>rw[C3.eq_1]at h;cases h
  | succ kq9=>
  rw[C3.eq_2]at h;generalize hrec8:C3 k p0 p1 kq9=rec8 at h;refine .a 8 ?_;rcases oi h with⟨c10,h⟩|⟨c10,h⟩
  ·refine .a 1 ?_;refine .sK [0,1,5,6] ?_;refine .seq_mid (fun ρ H=>∃ (n11:Nat) (x12:(List Bool)),ρ=[(0,(.fz 1 (p0.map AD))),(1,(.fz 1 (p1.map AD))),(5,(.own n11 0 x12.length)),(6,(AB x7))]∧H=[(Z9 n11 x12)]∧Hb k rec8 x7 x12=some r) ?_ ?_
   ·refine .a 5 ?_;obtain⟨g13,h⟩:=AC h;refine .a 3 ?_;rcases oi h with⟨c14,h⟩|⟨c14,h⟩
    ·refine .a 5 ?_;refine .lit (Z:=(AD false)) (xs:=(([true]:List Bool).map AD)) (qs:=[(0,(AD true))]) rfl 24 rfl (by decide) rfl ⟨rfl,rfl,rfl,trivial⟩ Tryz.underlying95 Bw G3 D9 rfl (by decide) (An (z:=1) [(AD true)] rfl ⟨⟨rfl,rfl⟩,trivial⟩) rfl fun n15=>?_;obtain⟨g17,h⟩:=AC h;refine .appendL (l:=x6) (m:=([true]:List Bool)) 1 25 rfl (by decide) rfl rfl rfl rfl rfl (CS.ownL (f:=AD) (l:=([true]:List Bool)) 0 rfl) Tryz.underlying95 Tryz.underlying95 Bw KI G3 rfl g17 (by decide) fun n16=>?_;refine .a 1 ?_;refine .nS [0,1,5,6] [1] ?_;exact⟨n16,(x6++([true]:List Bool)),rfl,rfl,h⟩
    refine .a 2 ?_;obtain⟨g18,h⟩:=AC h;refine .a 3 ?_;refine .lit (Z:=(AD false)) (xs:=(([(AA p1 x7)]:List Bool).map AD)) (qs:=[(0,(AD (AA p1 x7)))]) rfl 24 rfl (by decide) rfl ⟨rfl,rfl,rfl,trivial⟩ Tryz.underlying95 Bw G3 D9 rfl (by decide) (An (z:=1) [(AD (AA p1 x7))] rfl ⟨⟨rfl,rfl⟩,trivial⟩) rfl fun n19=>?_;obtain⟨g21,h⟩:=AC h;refine .appendL (l:=x6) (m:=([(AA p1 x7)]:List Bool)) 1 25 rfl (by decide) rfl rfl rfl rfl rfl (CS.ownL (f:=AD) (l:=([(AA p1 x7)]:List Bool)) 0 rfl) Tryz.underlying95 Tryz.underlying95 Bw KI G3 rfl g21 (by decide) fun n20=>?_;refine .a 1 ?_;refine .nS [0,1,5,6] [1] ?_;exact⟨n20,(x6++([(AA p1 x7)]:List Bool)),rfl,rfl,h⟩
   rintro _ _ ⟨n11,x12,rfl,rfl,h⟩;rw[Hb.eq_1]at h;refine .a 4 ?_;refine .nK [0,1,5,6] ?_;exact⟨kq9,Nat.lt_succ_self _,n11,x12,(AG (x7+(1:Int))),rfl,rfl,by rw[hrec8];exact h⟩
  refine .a 1 ?_;refine .eK [5] ?_;exact⟨n5,x6,rfl,rfl,h⟩
 rintro _ _ ⟨n3,x4,rfl,rfl,h⟩;rw[M2.eq_1]at h;refine .a 4 ?_;refine .nK [4] ?_;refine .freezeS 0 [(4,(.fz 1 (x4.map AD)))] rfl ⟨Aj rfl,trivial⟩ ?_;refine .rK [4] ?_;have hr:=Option.some.inj h;subst hr;exact⟨[(.fz 1 (x4.map AD))],⟨rfl,rfl,trivial⟩,rfl⟩
end Go.Avl.T8
namespace Go.Avl.T8
open Go Go.RowKit Go.Proofs Go.Avl
set_option linter.unusedVariables false
set_option maxRecDepth 100000
set_option maxHeartbeats 4000000
set_option linter.unusedSimpArgs false
attribute [local irreducible] AW AO AQ AY Aq AH
def Ii (k:Nat) (self106:((List AE)→ByteArray→(List Bool)→Option (List Bool))) (self78:((List AE)→ByteArray→(List Bool)→Option (List Bool))) (p0:(List AE)) (p1:ByteArray) (p2:(List Bool)) (t6:(List (List AE))):Option (List Bool):=
 if 0≤(AG ((p0.length:Int) - (1:Int)))∧(AG ((p0.length:Int) - (1:Int)))<(p0.length:Int)then if((AA p0 (AG ((p0.length:Int) - (1:Int)))).f0)=(4:Int)then if 0≤(0:Int)∧(0:Int)<(t6.length:Int)then(self106 (AA t6 (0:Int)) p1 p2).bind fun t10=>
 some (t10)
 else none
 else if 0≤(0:Int)∧(0:Int)<(t6.length:Int)then if 0≤(0:Int)∧(0:Int)<(t6.length:Int)then(self78 (AA t6 (0:Int)) p1 p2).bind fun t13=>
 (self106 (AA t6 (0:Int)) p1 t13).bind fun t14=>
 some (t14)
 else none
 else none
 else none
def MN (k:Nat) (x18:(List Bool)):Option (List Bool):=
 some (x18)
def Hg (k:Nat) (rec21:((List Bool)→Int→Option (List Bool))) (x20:Int) (x24:(List Bool)):Option (List Bool):=
 rec21 x24 (AG (x20+(1:Int)))
def Cz (k:Nat) (p0:(List AE)) (p1:ByteArray) (p2:(List Bool)):Nat→(List Bool)→Int→Option (List Bool)
 | 0,_,_=>none
 | j+1,x19,x20=>
   if x20<(p1.size:Int)then if 0≤x20∧x20<(p2.length:Int)then if(AA p2 x20)=true then if 0≤(AG ((p0.length:Int) - (1:Int)))∧(AG ((p0.length:Int) - (1:Int)))<(p0.length:Int)then if 0≤x20∧x20<(p1.size:Int)then(PQ k ((AA p0 (AG ((p0.length:Int) - (1:Int)))).f1) (AG (AF p1 x20))).bind fun t29=>
   if 0≤(AG (x20+(1:Int)))∧(AG (x20+(1:Int)))<(x19.length:Int)then Hg k (Cz k p0 p1 p2 j) x20 (AU x19 (AG (x20+(1:Int))) t29)
   else none
   else none
   else none
   else if 0≤(AG (x20+(1:Int)))∧(AG (x20+(1:Int)))<(x19.length:Int)then Hg k (Cz k p0 p1 p2 j) x20 (AU x19 (AG (x20+(1:Int))) false)
   else none
   else none
   else MN k x19
def Lt (k:Nat) (x4:(List Bool)):Option (List Bool):=
 some (x4)
def Im (k:Nat) (rec7:((List Bool)→Int→Option (List Bool))) (x6:Int) (x10:(List Bool)):Option (List Bool):=
 rec7 x10 (AG (x6+(1:Int)))
def HF (k:Nat) (rec7:((List Bool)→Int→Option (List Bool))) (x6:Int) (t12:(List Bool)) (b13:Bool):Option (List Bool):=
 if b13=true then some (t12)
 else Im k rec7 x6 t12
def DV (k:Nat) (rec7:((List Bool)→Int→Option (List Bool))) (x5:(List Bool)) (x6:Int) (t12:(List Bool)):Nat→Bool→Int→Option (List Bool)
 | 0,_,_=>none
 | j+1,b15,x16=>
   if x16<(t12.length:Int)then Option.bind (α:=Bool) (if b15=true then if 0≤x16∧x16<(t12.length:Int)then if 0≤x16∧x16<(x5.length:Int)then some (((AA t12 x16)==(AA x5 x16)))
   else none
   else none
   else some (false)) fun b20=>
   (DV k rec7 x5 x6 t12 j) b20 (AG (x16+(1:Int)))
   else HF k rec7 x6 t12 b15
def Cq (k:Nat) (self78:((List AE)→ByteArray→(List Bool)→Option (List Bool))) (p0:(List AE)) (p1:ByteArray):Nat→(List Bool)→Int→Option (List Bool)
 | 0,_,_=>none
 | j+1,x5,x6=>
   if x6≤(p1.size:Int)then(self78 p0 p1 x5).bind fun t11=>
   (O9 k x5 t11).bind fun t12=>
   DV k (Cq k self78 p0 p1 j) x5 x6 t12 k true (0:Int)
   else Lt k x5
mutual
def Bh (k:Nat):Nat→(List AE)→ByteArray→(List Bool)→Option (List Bool)
 | 0,_,_,_=>none
 | j+1,p0,p1,p2=>
   if 0≤(p2.length:Int)∧(p2.length:Int)*(1:Int)≤140737488355328∧(p2.length:Int)≤9223372036854775807 then(TT k p0).bind fun t6=>
   if 0≤(AG ((p0.length:Int) - (1:Int)))∧(AG ((p0.length:Int) - (1:Int)))<(p0.length:Int)then if((AA p0 (AG ((p0.length:Int) - (1:Int)))).f0)=(0:Int)then some (p2)
   else if((AA p0 (AG ((p0.length:Int) - (1:Int)))).f0)=(1:Int)then Cz k p0 p1 p2 k (List.replicate (p2.length:Int).toNat false) (0:Int)
   else if((AA p0 (AG ((p0.length:Int) - (1:Int)))).f0)=(2:Int)then if 0≤(1:Int)∧(1:Int)<(t6.length:Int)then if 0≤(0:Int)∧(0:Int)<(t6.length:Int)then((Bh k j) (AA t6 (0:Int)) p1 p2).bind fun t35=>
   ((Bh k j) (AA t6 (1:Int)) p1 t35).bind fun t36=>
   some (t36)
   else none
   else none
   else if((AA p0 (AG ((p0.length:Int) - (1:Int)))).f0)=(3:Int)then if 0≤(0:Int)∧(0:Int)<(t6.length:Int)then((Bh k j) (AA t6 (0:Int)) p1 p2).bind fun t39=>
   if 0≤(1:Int)∧(1:Int)<(t6.length:Int)then((Bh k j) (AA t6 (1:Int)) p1 p2).bind fun t41=>
   (O9 k t39 t41).bind fun t42=>
   some (t42)
   else none
   else none
   else if((AA p0 (AG ((p0.length:Int) - (1:Int)))).f0)=(6:Int)then if 0≤(0:Int)∧(0:Int)<(t6.length:Int)then((Bh k j) (AA t6 (0:Int)) p1 p2).bind fun t45=>
   (O9 k p2 t45).bind fun t46=>
   some (t46)
   else none
   else Ii k (F7 k j) (Bh k j) p0 p1 p2 t6
   else none
   else none
def F7 (k:Nat):Nat→(List AE)→ByteArray→(List Bool)→Option (List Bool)
 | 0,_,_,_=>none
 | j+1,p0,p1,p2=>
   Cq k (Bh k j) p0 p1 k p2 (0:Int)
end
def Xd (k:Nat) (p0:(List AE)) (p1:ByteArray) (p2:(List Bool)):Option (List Bool):=Bh k k p0 p1 p2
theorem UC (k:Nat):∀ j:Nat,(∀ (p0:(List AE)) (p1:ByteArray) (p2:(List Bool)) (r:(List Bool)),Bh k j p0 p1 p2=some r→AY Tryz.prog 78 [(.fz 5 (p0.map AM)),(AN p1),(.fz 1 (p2.map AD))] (G7 r))∧(∀ (p0:(List AE)) (p1:ByteArray) (p2:(List Bool)) (r:(List Bool)),F7 k j p0 p1 p2=some r→AY Tryz.prog 106 [(.fz 5 (p0.map AM)),(AN p1),(.fz 1 (p2.map AD))] (G7 r)):=by
 intro j
 induction j with
 | zero=>exact⟨(by intro p0 p1 p2 r h;rw[Bh.eq_1]at h;cases h),(by intro p0 p1 p2 r h;rw[F7.eq_1]at h;cases h)⟩
 | succ j hself=>
 obtain⟨hself78,hself106⟩:=hself;refine⟨?_,?_⟩
 ·intro p0 p1 p2 r h;rw[Bh.eq_2]at h;generalize hsself78:Bh k j=self78 at h hself78;generalize hsself106:F7 k j=self106 at h hself106;refine AY.intro (res:=[.tmp 6]) Tryz.func78 rfl rfl rfl (Nat.le_of_ble_eq_true rfl) ?_;refine .a 8 ?_;obtain⟨g5,h⟩:=AC h;refine .makeL (f:=AD) false rfl 12 rfl (by decide) rfl rfl rfl Tryz.underlying95 Bw KI G3 D9 rfl g5 fun n4=>?_;refine .a 5 ?_;obtain⟨t6,et6,h⟩:=ob h;refine .callS [(.fz 5 (p0.map AM))] (.fz 1 (t6.map Fq)) 14 rfl (by decide) Zc rfl rfl rfl ⟨rfl,rfl,trivial⟩ (Rd et6) ?_;refine .a 1 ?_;refine .nK [0,1,2,7,8] ?_;refine .seq_mid (fun ρ H=>ρ=[(0,(.fz 5 (p0.map AM))),(1,(AN p1)),(2,(.fz 1 (p2.map AD))),(8,(.fz 1 (t6.map Fq)))]∧H=[]∧Ii k self106 self78 p0 p1 p2 t6=some r) ?_ ?_
  ·refine .a 6 ?_;obtain⟨g15,h⟩:=AC h;refine .a 1 ?_;refine .c (.fldRp rfl rfl Tryz.underlying122 rfl Bb (.cast (.fld0 .here) rfl)) ?_;refine .a 8 ?_;rcases oi h with⟨c16,h⟩|⟨c16,h⟩
   ·refine .a 5 ?_;refine .nS [6] [] ?_;refine .rK [6] ?_;have hr:=Option.some.inj h;subst hr;exact⟨[(.fz 1 (p2.map AD))],⟨rfl,rfl,trivial⟩,rfl⟩
   refine .a 6 ?_;rcases oi h with⟨c17,h⟩|⟨c17,h⟩
   ·refine .a 1 ?_;refine .seq_mid (fun ρ H=>∃ (x18:(List Bool)),ρ=[(7,(.own n4 0 x18.length))]∧H=[(Z9 n4 x18)]∧MN k x18=some r) ?_ ?_
    ·refine .a 5 ?_;refine .wK [0,1,2,7,9] ?_;refine .loop (fun kq ρ H=>∃ (x19:(List Bool)) (x20:Int),ρ=[(0,(.fz 5 (p0.map AM))),(1,(AN p1)),(2,(.fz 1 (p2.map AD))),(7,(.own n4 0 x19.length)),(9,(AB x20))]∧H=[(Z9 n4 x19)]∧Cz k p0 p1 p2 kq x19 x20=some r) k ⟨(List.replicate (p2.length:Int).toNat false),(0:Int),rfl,rfl,h⟩ ?_;rintro kq22 _ _ ⟨x19,x20,rfl,rfl,h⟩
     cases kq22 with
     | zero=>rw[Cz.eq_1]at h;cases h
     | succ kq22=>
     rw[Cz.eq_2]at h;generalize hrec21:Cz k p0 p1 p2 kq22=rec21 at h;refine .a 8 ?_;rcases oi h with⟨c23,h⟩|⟨c23,h⟩
     ·refine .a 1 ?_;refine .sK [0,1,2,7,9] ?_;refine .seq_mid (fun ρ H=>∃ (x24:(List Bool)),ρ=[(0,(.fz 5 (p0.map AM))),(1,(AN p1)),(2,(.fz 1 (p2.map AD))),(7,(.own n4 0 x24.length)),(9,(AB x20))]∧H=[(Z9 n4 x24)]∧Hg k rec21 x20 x24=some r) ?_ ?_
      ·refine .a 1 ?_;obtain⟨g25,h⟩:=AC h;rcases oi h with⟨c26,h⟩|⟨c26,h⟩
       ·obtain⟨g27,h⟩:=AC h;obtain⟨g28,h⟩:=AC h;obtain⟨t29,et29,h⟩:=ob h;obtain⟨g30,h⟩:=AC h;refine .regEff (by rfl) (by decide+kernel) (fun (σ:Nat→Nat)=>([(.own n4 0 x19.length),(AB x20),(AB (AG (x20+(1:Int)))),(.fz 1 (p2.map AD)),(AB x20),(.rp (AD (AA p2 x20))),(AD (AA p2 x20)),(AD (AA p2 x20)),(.fz 5 (p0.map AM)),(.fz 5 (p0.map AM)),(AB (p0.length:Int)),(AB (AG ((p0.length:Int) - (1:Int)))),(.rp (AM (AA p0 (AG ((p0.length:Int) - (1:Int)))))),(.rp (.ar 1 (((AA p0 (AG ((p0.length:Int) - (1:Int)))).f1).toList.map Ab))),(.ar 1 (((AA p0 (AG ((p0.length:Int) - (1:Int)))).f1).toList.map Ab)),(AN p1),(AB x20),(AK (AF p1 x20)),(AB (AG (AF p1 x20))),(AD t29),(AD t29),(.ptr n4 ((AG (x20+(1:Int))).toNat*1+0)),(.fl undef)]:List AV)) (fun (L:Nat→Bool) (σ:Nat→Nat)=>((bif L 22 then((Z9 n4 (AU x19 (AG (x20+(1:Int))) t29))::[])else((Z9 n4 x19)::[])):Aa)) [(0,(.fz 5 (p0.map AM))),(1,(AN p1)),(2,(.fz 1 (p2.map AD))),(7,(.own n4 0 x19.length)),(9,(AB x20))] ⟨rfl,rfl,rfl,rfl,rfl,trivial⟩ (fun _=>rfl) (fun σ=>(.refl _)) ⟨?_,?_,?_,?_,?_,?_,?_,?_,?_,?_,?_,?_,?_,?_,?_,?_,?_,?_,?_,?_,?_,?_,?_,trivial⟩ (fun σ=>[(0,(.fz 5 (p0.map AM))),(1,(AN p1)),(2,(.fz 1 (p2.map AD))),(7,(.own n4 0 x19.length)),(9,(AB x20))]) (fun σ=>((Z9 n4 (AU x19 (AG (x20+(1:Int))) t29))::[])) (fun σ=>⟨rfl,rfl,rfl,rfl,rfl,trivial⟩) (fun σ=>.refl _) (fun σ=>?_)
        ·refine .calm (fun _ _=>rfl) fun L σ hc hi hd=>?_;have m22:L 22=false:=hc.neg (i:=0) (j:=22) rfl (by rfl) hi;refine .heq (H':=((Z9 n4 x19)::[])) (by first|rfl|simp only[m22,cond_true,cond_false]) ?_;refine .a 1 ?_;exact .nE (d:=33) rfl ⟨⟨33,_,rfl,rfl,rfl⟩,.of_eq (by first|rfl|simp only[m22,cond_true,cond_false]) (.refl _)⟩
        ·refine .calm (fun _ _=>rfl) fun L σ hc hi hd=>?_;refine .a 1 ?_;exact .nE (d:=34) rfl ⟨⟨34,_,rfl,rfl,rfl⟩,.refl _⟩
        ·refine .calm (fun _ _=>rfl) fun L σ hc hi hd=>?_;refine .a 1 ?_;exact .nE (d:=35) rfl ⟨⟨35,_,rfl,rfl,rfl⟩,.refl _⟩
        ·refine .calm (fun _ _=>rfl) fun L σ hc hi hd=>?_;refine .a 1 ?_;exact .nE (d:=36) rfl ⟨⟨36,_,rfl,rfl,rfl⟩,.refl _⟩
        ·refine .calm (fun _ _=>rfl) fun L σ hc hi hd=>?_;refine .a 1 ?_;exact .nE (d:=37) rfl ⟨⟨37,_,rfl,rfl,rfl⟩,.refl _⟩
        ·refine .calm (fun _ _=>rfl) fun L σ hc hi hd=>?_;refine .a 1 ?_;exact .nE (d:=38) rfl ⟨⟨38,_,rfl,rfl,rfl⟩,.refl _⟩
        ·refine .calm (fun _ _=>rfl) fun L σ hc hi hd=>?_;refine .a 1 ?_;exact .nE (d:=39) rfl ⟨⟨39,_,rfl,rfl,rfl⟩,.refl _⟩
        ·refine .calm (fun _ _=>rfl) fun L σ hc hi hd=>?_;refine .a 1 ?_;exact .nE (d:=40) rfl ⟨⟨40,_,rfl,rfl,rfl⟩,.refl _⟩
        ·refine .calm (fun _ _=>rfl) fun L σ hc hi hd=>?_;refine .a 1 ?_;exact .nE (d:=41) rfl ⟨⟨41,_,rfl,rfl,rfl⟩,.refl _⟩
        ·refine .calm (fun _ _=>rfl) fun L σ hc hi hd=>?_;refine .a 1 ?_;exact .nE (d:=42) rfl ⟨⟨42,_,rfl,rfl,rfl⟩,.refl _⟩
        ·refine .calm (fun _ _=>rfl) fun L σ hc hi hd=>?_;refine .a 1 ?_;exact .nE (d:=43) rfl ⟨⟨43,_,rfl,rfl,rfl⟩,.refl _⟩
        ·refine .calm (fun _ _=>rfl) fun L σ hc hi hd=>?_;refine .a 1 ?_;exact .nE (d:=44) rfl ⟨⟨44,_,rfl,rfl,rfl⟩,.refl _⟩
        ·refine .calm (fun _ _=>rfl) fun L σ hc hi hd=>?_;refine .a 1 ?_;exact .nE (d:=45) rfl ⟨⟨45,_,rfl,rfl,rfl⟩,.refl _⟩
        ·refine .calm (fun _ _=>rfl) fun L σ hc hi hd=>?_;refine .wK [40,45] ?_;refine .cG rfl rfl (bD c26) (.fldRp rfl rfl Tryz.underlying122 rfl Br (.cast (.fldS (.fld0 .here)) rfl)) ?_;exact .nE (d:=46) rfl ⟨⟨46,_,rfl,rfl,rfl⟩,.refl _⟩
        ·refine .calm (fun _ _=>rfl) fun L σ hc hi hd=>?_;refine .a 1 ?_;exact .nE (d:=47) rfl ⟨⟨47,_,rfl,rfl,rfl⟩,.refl _⟩
        ·refine .calm (fun _ _=>rfl) fun L σ hc hi hd=>?_;refine .a 1 ?_;exact .nE (d:=48) rfl ⟨⟨48,_,rfl,rfl,rfl⟩,.refl _⟩
        ·refine .calm (fun _ _=>rfl) fun L σ hc hi hd=>?_;refine .a 1 ?_;exact .nE (d:=49) rfl ⟨⟨49,_,rfl,rfl,rfl⟩,.refl _⟩
        ·refine .calm (fun _ _=>rfl) fun L σ hc hi hd=>?_;refine .a 1 ?_;exact .nE (d:=50) rfl ⟨⟨50,_,rfl,rfl,rfl⟩,.refl _⟩
        ·refine .calm (fun _ _=>rfl) fun L σ hc hi hd=>?_;refine .a 1 ?_;exact .nE (d:=51) rfl ⟨⟨51,_,rfl,rfl,rfl⟩,.refl _⟩
        ·refine .calm (fun _ _=>rfl) fun L σ hc hi hd=>?_;refine .wK [40,47,51] ?_;refine .callG 7 true 40 [(.ar 1 (((AA p0 (AG ((p0.length:Int) - (1:Int)))).f1).toList.map Ab)),(AB (AG (AF p1 x20)))] (AD t29) 52 rfl (by decide) SM rfl rfl (bD c26) rfl rfl ⟨rfl,rfl,rfl,rfl,trivial⟩ (IC et29) ?_;exact .nE (d:=52) rfl ⟨⟨52,_,rfl,rfl,rfl⟩,.refl _⟩
        ·refine .calm (fun _ _=>rfl) fun L σ hc hi hd=>?_;refine .a 1 ?_;exact .nE (d:=53) rfl ⟨⟨53,_,rfl,rfl,rfl⟩,.refl _⟩
        ·refine .calm (fun _ _=>rfl) fun L σ hc hi hd=>?_;have m22:L 22=false:=hc.neg (i:=21) (j:=22) rfl (by rfl) hi;refine .heq (H':=((Z9 n4 x19)::[])) (by first|rfl|simp only[m22,cond_true,cond_false]) ?_;refine .a 1 ?_;exact .nE (d:=54) rfl ⟨⟨54,_,rfl,rfl,rfl⟩,.of_eq (by first|rfl|simp only[m22,cond_true,cond_false]) (.refl _)⟩
        ·intro L σ hc hi hd;refine .heq (H':=((Z9 n4 x19)::[])) (by first|rfl|simp only[hi,cond_true,cond_false]) ?_;refine .wK [53,54] ?_;refine .store 0 rfl rfl rfl rfl rfl rfl (.cast (.lidx (AG (x20+(1:Int))) t29 g30.1 g30.2 .here) (by omega)) rfl rfl Bw rfl ?_;have a22:A5 L 22 22=true:=rfl;exact .n0 ⟨σ,(fun _ _=>rfl),(fun d' hd'=>by cases hd'),.of_eq (B:=((Z9 n4 (AU x19 (AG (x20+(1:Int))) t29))::[])) (by simp only[a22,cond_true,cond_false]) (.refl _)⟩
        refine .coe 7 (y':=(BL n4 (AU x19 (AG (x20+(1:Int))) t29).length)) rfl (fun _ _ h=>Le (by simp[AU,Gb]) h) ?_;refine .nK [0,1,2,7,9] ?_;exact⟨(AU x19 (AG (x20+(1:Int))) t29),rfl,rfl,h⟩
       obtain⟨g31,h⟩:=AC h;refine .regEff (by rfl) (by decide+kernel) (fun (σ:Nat→Nat)=>([(.own n4 0 x19.length),(AB x20),(AB (AG (x20+(1:Int)))),(.fz 1 (p2.map AD)),(AB x20),(.rp (AD (AA p2 x20))),(AD (AA p2 x20)),(AD (AA p2 x20)),(.fl undef),(.fl undef),(.fl undef),(.fl undef),(.fl undef),(.fl undef),(.fl undef),(.fl undef),(.fl undef),(.fl undef),(.fl undef),(.fl undef),(AD false),(.ptr n4 ((AG (x20+(1:Int))).toNat*1+0)),(.fl undef)]:List AV)) (fun (L:Nat→Bool) (σ:Nat→Nat)=>((bif L 22 then((Z9 n4 (AU x19 (AG (x20+(1:Int))) false))::[])else((Z9 n4 x19)::[])):Aa)) [(0,(.fz 5 (p0.map AM))),(1,(AN p1)),(2,(.fz 1 (p2.map AD))),(7,(.own n4 0 x19.length)),(9,(AB x20))] ⟨rfl,rfl,rfl,rfl,rfl,trivial⟩ (fun _=>rfl) (fun σ=>(.refl _)) ⟨?_,?_,?_,?_,?_,?_,?_,?_,?_,?_,?_,?_,?_,?_,?_,?_,?_,?_,?_,?_,?_,?_,?_,trivial⟩ (fun σ=>[(0,(.fz 5 (p0.map AM))),(1,(AN p1)),(2,(.fz 1 (p2.map AD))),(7,(.own n4 0 x19.length)),(9,(AB x20))]) (fun σ=>((Z9 n4 (AU x19 (AG (x20+(1:Int))) false))::[])) (fun σ=>⟨rfl,rfl,rfl,rfl,rfl,trivial⟩) (fun σ=>.refl _) (fun σ=>?_)
       ·refine .calm (fun _ _=>rfl) fun L σ hc hi hd=>?_;have m22:L 22=false:=hc.neg (i:=0) (j:=22) rfl (by rfl) hi;refine .heq (H':=((Z9 n4 x19)::[])) (by first|rfl|simp only[m22,cond_true,cond_false]) ?_;refine .a 1 ?_;exact .nE (d:=33) rfl ⟨⟨33,_,rfl,rfl,rfl⟩,.of_eq (by first|rfl|simp only[m22,cond_true,cond_false]) (.refl _)⟩
       ·refine .calm (fun _ _=>rfl) fun L σ hc hi hd=>?_;refine .a 1 ?_;exact .nE (d:=34) rfl ⟨⟨34,_,rfl,rfl,rfl⟩,.refl _⟩
       ·refine .calm (fun _ _=>rfl) fun L σ hc hi hd=>?_;refine .a 1 ?_;exact .nE (d:=35) rfl ⟨⟨35,_,rfl,rfl,rfl⟩,.refl _⟩
       ·refine .calm (fun _ _=>rfl) fun L σ hc hi hd=>?_;refine .a 1 ?_;exact .nE (d:=36) rfl ⟨⟨36,_,rfl,rfl,rfl⟩,.refl _⟩
       ·refine .calm (fun _ _=>rfl) fun L σ hc hi hd=>?_;refine .a 1 ?_;exact .nE (d:=37) rfl ⟨⟨37,_,rfl,rfl,rfl⟩,.refl _⟩
       ·refine .calm (fun _ _=>rfl) fun L σ hc hi hd=>?_;refine .a 1 ?_;exact .nE (d:=38) rfl ⟨⟨38,_,rfl,rfl,rfl⟩,.refl _⟩
       ·refine .calm (fun _ _=>rfl) fun L σ hc hi hd=>?_;refine .a 1 ?_;exact .nE (d:=39) rfl ⟨⟨39,_,rfl,rfl,rfl⟩,.refl _⟩
       ·refine .calm (fun _ _=>rfl) fun L σ hc hi hd=>?_;refine .a 1 ?_;exact .nE (d:=40) rfl ⟨⟨40,_,rfl,rfl,rfl⟩,.refl _⟩
       ·refine .calm (fun _ _=>rfl) fun L σ hc hi hd=>?_;refine .a 1 ?_;exact .nE (d:=41) rfl ⟨⟨41,_,rfl,rfl,rfl⟩,.refl _⟩
       ·refine .calm (fun _ _=>rfl) fun L σ hc hi hd=>?_;refine .a 1 ?_;exact .nE (d:=42) rfl ⟨⟨42,_,rfl,rfl,rfl⟩,.refl _⟩
       ·refine .calm (fun _ _=>rfl) fun L σ hc hi hd=>?_;refine .a 1 ?_;exact .nE (d:=43) rfl ⟨⟨43,_,rfl,rfl,rfl⟩,.refl _⟩
       ·refine .calm (fun _ _=>rfl) fun L σ hc hi hd=>?_;refine .a 1 ?_;exact .nE (d:=44) rfl ⟨⟨44,_,rfl,rfl,rfl⟩,.refl _⟩
       ·refine .calm (fun _ _=>rfl) fun L σ hc hi hd=>?_;refine .a 1 ?_;exact .nE (d:=45) rfl ⟨⟨45,_,rfl,rfl,rfl⟩,.refl _⟩
       ·refine .calm (fun _ _=>rfl) fun L σ hc hi hd=>?_;refine .a 1 ?_;exact .nE (d:=46) rfl ⟨⟨46,_,rfl,rfl,rfl⟩,.refl _⟩
       ·refine .calm (fun _ _=>rfl) fun L σ hc hi hd=>?_;refine .a 1 ?_;exact .nE (d:=47) rfl ⟨⟨47,_,rfl,rfl,rfl⟩,.refl _⟩
       ·refine .calm (fun _ _=>rfl) fun L σ hc hi hd=>?_;refine .a 1 ?_;exact .nE (d:=48) rfl ⟨⟨48,_,rfl,rfl,rfl⟩,.refl _⟩
       ·refine .calm (fun _ _=>rfl) fun L σ hc hi hd=>?_;refine .a 1 ?_;exact .nE (d:=49) rfl ⟨⟨49,_,rfl,rfl,rfl⟩,.refl _⟩
       ·refine .calm (fun _ _=>rfl) fun L σ hc hi hd=>?_;refine .a 1 ?_;exact .nE (d:=50) rfl ⟨⟨50,_,rfl,rfl,rfl⟩,.refl _⟩
       ·refine .calm (fun _ _=>rfl) fun L σ hc hi hd=>?_;refine .a 1 ?_;exact .nE (d:=51) rfl ⟨⟨51,_,rfl,rfl,rfl⟩,.refl _⟩
       ·refine .calm (fun _ _=>rfl) fun L σ hc hi hd=>?_;refine .a 1 ?_;exact .nE (d:=52) rfl ⟨⟨52,_,rfl,rfl,rfl⟩,.refl _⟩
       ·refine .calm (fun _ _=>rfl) fun L σ hc hi hd=>?_;refine .a 1 ?_;exact .nE (d:=53) rfl ⟨⟨53,_,rfl,rfl,rfl⟩,.refl _⟩
       ·refine .calm (fun _ _=>rfl) fun L σ hc hi hd=>?_;have m22:L 22=false:=hc.neg (i:=21) (j:=22) rfl (by rfl) hi;refine .heq (H':=((Z9 n4 x19)::[])) (by first|rfl|simp only[m22,cond_true,cond_false]) ?_;refine .a 1 ?_;exact .nE (d:=54) rfl ⟨⟨54,_,rfl,rfl,rfl⟩,.of_eq (by first|rfl|simp only[m22,cond_true,cond_false]) (.refl _)⟩
       ·intro L σ hc hi hd;refine .heq (H':=((Z9 n4 x19)::[])) (by first|rfl|simp only[hi,cond_true,cond_false]) ?_;refine .wK [53,54] ?_;refine .store 0 rfl rfl rfl rfl rfl rfl (.cast (.lidx (AG (x20+(1:Int))) false g31.1 g31.2 .here) (by omega)) rfl rfl Bw rfl ?_;have a22:A5 L 22 22=true:=rfl;exact .n0 ⟨σ,(fun _ _=>rfl),(fun d' hd'=>by cases hd'),.of_eq (B:=((Z9 n4 (AU x19 (AG (x20+(1:Int))) false))::[])) (by simp only[a22,cond_true,cond_false]) (.refl _)⟩
       refine .coe 7 (y':=(BL n4 (AU x19 (AG (x20+(1:Int))) false).length)) rfl (fun _ _ h=>Le (by simp[AU,Gb]) h) ?_;refine .nK [0,1,2,7,9] ?_;exact⟨(AU x19 (AG (x20+(1:Int))) false),rfl,rfl,h⟩
      rintro _ _ ⟨x24,rfl,rfl,h⟩;rw[Hg.eq_1]at h;refine .a 4 ?_;refine .nK [0,1,2,7,9] ?_;exact⟨kq22,Nat.lt_succ_self _,x24,(AG (x20+(1:Int))),rfl,rfl,by rw[hrec21];exact h⟩
     refine .a 1 ?_;refine .eK [7] ?_;exact⟨x19,rfl,rfl,h⟩
    rintro _ _ ⟨x18,rfl,rfl,h⟩;rw[MN.eq_1]at h;refine .a 4 ?_;refine .nK [6] ?_;refine .freezeS 0 [(6,(.fz 1 (x18.map AD)))] rfl ⟨Aj rfl,trivial⟩ ?_;refine .rK [6] ?_;have hr:=Option.some.inj h;subst hr;exact⟨[(.fz 1 (x18.map AD))],⟨rfl,rfl,trivial⟩,rfl⟩
   refine .a 5 ?_;refine .nS [0,1,2,8,21,56] [] ?_;rcases oi h with⟨c32,h⟩|⟨c32,h⟩
   ·refine .a 2 ?_;obtain⟨g33,h⟩:=AC h;obtain⟨g34,h⟩:=AC h;obtain⟨t35,et35,h⟩:=ob h;obtain⟨t36,et36,h⟩:=ob h;refine .regAny (by rfl) (by decide+kernel) [(.fz 1 (t6.map Fq)),(.rp (Ba (AA t6 (1:Int)))),(Ba (AA t6 (1:Int))),(AN p1),(.fz 1 (t6.map Fq)),(.rp (Ba (AA t6 (0:Int)))),(Ba (AA t6 (0:Int))),(AN p1),(.fz 1 (p2.map AD)),(.fz 1 (t35.map AD)),(.fz 1 (t36.map AD)),(.fz 1 (t36.map AD))] [(1,(AN p1)),(2,(.fz 1 (p2.map AD))),(8,(.fz 1 (t6.map Fq)))] ⟨rfl,rfl,rfl,trivial⟩ rfl ?_ [(6,(.fz 1 (t36.map AD)))] [] ⟨rfl,trivial⟩ (.refl _) ?_
    ·refine⟨?_,?_,?_,?_,?_,?_,?_,?_,?_,?_,?_,?_,trivial⟩
     ·refine .a 1 ?_;exact .q 58
     ·refine .a 1 ?_;exact .q 59
     ·refine .a 1 ?_;exact .q 60
     ·refine .a 1 ?_;exact .q 61
     ·refine .a 1 ?_;exact .q 62
     ·refine .a 1 ?_;exact .q 63
     ·refine .a 1 ?_;exact .q 64
     ·refine .a 1 ?_;exact .q 65
     ·refine .a 1 ?_;exact .q 66
     ·refine .wK [64,65,66] ?_;refine .callS [(Ba (AA t6 (0:Int))),(AN p1),(.fz 1 (p2.map AD))] (.fz 1 (t35.map AD)) 67 rfl (by decide) OS rfl rfl rfl ⟨rfl,rfl,rfl,rfl,rfl,rfl,trivial⟩ (hself78 _ _ _ _ et35) ?_;exact .q 67
     ·refine .wK [60,61,67] ?_;refine .callS [(Ba (AA t6 (1:Int))),(AN p1),(.fz 1 (t35.map AD))] (.fz 1 (t36.map AD)) 68 rfl (by decide) OS rfl rfl rfl ⟨rfl,rfl,rfl,rfl,rfl,rfl,trivial⟩ (hself78 _ _ _ _ et36) ?_;exact .q 68
     refine .a 1 ?_;exact .q 6
    refine .rK [6] ?_;have hr:=Option.some.inj h;subst hr;exact⟨[(.fz 1 (t36.map AD))],⟨rfl,rfl,trivial⟩,rfl⟩
   refine .a 6 ?_;rcases oi h with⟨c37,h⟩|⟨c37,h⟩
   ·refine .a 2 ?_;obtain⟨g38,h⟩:=AC h;obtain⟨t39,et39,h⟩:=ob h;obtain⟨g40,h⟩:=AC h;obtain⟨t41,et41,h⟩:=ob h;obtain⟨t42,et42,h⟩:=ob h;refine .regAny (by rfl) (by decide+kernel) [(.fz 1 (t6.map Fq)),(.rp (Ba (AA t6 (0:Int)))),(Ba (AA t6 (0:Int))),(AN p1),(.fz 1 (p2.map AD)),(.fz 1 (t39.map AD)),(.fz 1 (t6.map Fq)),(.rp (Ba (AA t6 (1:Int)))),(Ba (AA t6 (1:Int))),(AN p1),(.fz 1 (p2.map AD)),(.fz 1 (t41.map AD)),(.fz 1 (t42.map AD)),(.fz 1 (t42.map AD))] [(1,(AN p1)),(2,(.fz 1 (p2.map AD))),(8,(.fz 1 (t6.map Fq)))] ⟨rfl,rfl,rfl,trivial⟩ rfl ?_ [(6,(.fz 1 (t42.map AD)))] [] ⟨rfl,trivial⟩ (.refl _) ?_
    ·refine⟨?_,?_,?_,?_,?_,?_,?_,?_,?_,?_,?_,?_,?_,?_,trivial⟩
     ·refine .a 1 ?_;exact .q 71
     ·refine .a 1 ?_;exact .q 72
     ·refine .a 1 ?_;exact .q 73
     ·refine .a 1 ?_;exact .q 74
     ·refine .a 1 ?_;exact .q 75
     ·refine .wK [73,74,75] ?_;refine .callS [(Ba (AA t6 (0:Int))),(AN p1),(.fz 1 (p2.map AD))] (.fz 1 (t39.map AD)) 76 rfl (by decide) OS rfl rfl rfl ⟨rfl,rfl,rfl,rfl,rfl,rfl,trivial⟩ (hself78 _ _ _ _ et39) ?_;exact .q 76
     ·refine .a 1 ?_;exact .q 77
     ·refine .a 1 ?_;exact .q 78
     ·refine .a 1 ?_;exact .q 79
     ·refine .a 1 ?_;exact .q 80
     ·refine .a 1 ?_;exact .q 81
     ·refine .wK [79,80,81] ?_;refine .callS [(Ba (AA t6 (1:Int))),(AN p1),(.fz 1 (p2.map AD))] (.fz 1 (t41.map AD)) 82 rfl (by decide) OS rfl rfl rfl ⟨rfl,rfl,rfl,rfl,rfl,rfl,trivial⟩ (hself78 _ _ _ _ et41) ?_;exact .q 82
     ·refine .wK [76,82] ?_;refine .callS [(.fz 1 (t39.map AD)),(.fz 1 (t41.map AD))] (.fz 1 (t42.map AD)) 83 rfl (by decide) SR rfl rfl rfl ⟨rfl,rfl,rfl,rfl,trivial⟩ (Hl et42) ?_;exact .q 83
     refine .a 1 ?_;exact .q 6
    refine .rK [6] ?_;have hr:=Option.some.inj h;subst hr;exact⟨[(.fz 1 (t42.map AD))],⟨rfl,rfl,trivial⟩,rfl⟩
   refine .a 6 ?_;rcases oi h with⟨c43,h⟩|⟨c43,h⟩
   ·refine .a 5 ?_;obtain⟨g44,h⟩:=AC h;refine .a 4 ?_;obtain⟨t45,et45,h⟩:=ob h;refine .callS [(Ba (AA t6 (0:Int))),(AN p1),(.fz 1 (p2.map AD))] (.fz 1 (t45.map AD)) 92 rfl (by decide) OS rfl rfl rfl ⟨rfl,rfl,rfl,rfl,rfl,rfl,trivial⟩ (hself78 _ _ _ _ et45) ?_;obtain⟨t46,et46,h⟩:=ob h;refine .callS [(.fz 1 (p2.map AD)),(.fz 1 (t45.map AD))] (.fz 1 (t46.map AD)) 93 rfl (by decide) SR rfl rfl rfl ⟨rfl,rfl,rfl,rfl,trivial⟩ (Hl et46) ?_;refine .a 1 ?_;refine .nK [6] ?_;refine .rK [6] ?_;have hr:=Option.some.inj h;subst hr;exact⟨[(.fz 1 (t46.map AD))],⟨rfl,rfl,trivial⟩,rfl⟩
   refine .a 1 ?_;refine .sK [0,1,2,8] ?_;exact⟨rfl,rfl,h⟩
  rintro _ _ ⟨rfl,rfl,h⟩;rw[Ii.eq_1]at h;refine .a 7 ?_;obtain⟨g7,h⟩:=AC h;refine .a 1 ?_;refine .c (.fldRp rfl rfl Tryz.underlying122 rfl Bb (.cast (.fld0 .here) rfl)) ?_;refine .a 3 ?_;rcases oi h with⟨c8,h⟩|⟨c8,h⟩
  ·refine .a 4 ?_;obtain⟨g9,h⟩:=AC h;refine .a 4 ?_;obtain⟨t10,et10,h⟩:=ob h;refine .callS [(Ba (AA t6 (0:Int))),(AN p1),(.fz 1 (p2.map AD))] (.fz 1 (t10.map AD)) 107 rfl (by decide) Wp rfl rfl rfl ⟨rfl,rfl,rfl,rfl,rfl,rfl,trivial⟩ (hself106 _ _ _ _ et10) ?_;refine .a 1 ?_;refine .nK [6] ?_;refine .rK [6] ?_;have hr:=Option.some.inj h;subst hr;exact⟨[(.fz 1 (t10.map AD))],⟨rfl,rfl,trivial⟩,rfl⟩
  refine .a 3 ?_;obtain⟨g11,h⟩:=AC h;obtain⟨g12,h⟩:=AC h;obtain⟨t13,et13,h⟩:=ob h;obtain⟨t14,et14,h⟩:=ob h;refine .regAny (by rfl) (by decide+kernel) [(.fz 1 (t6.map Fq)),(.rp (Ba (AA t6 (0:Int)))),(Ba (AA t6 (0:Int))),(AN p1),(.fz 1 (t6.map Fq)),(.rp (Ba (AA t6 (0:Int)))),(Ba (AA t6 (0:Int))),(AN p1),(.fz 1 (p2.map AD)),(.fz 1 (t13.map AD)),(.fz 1 (t14.map AD)),(.fz 1 (t14.map AD))] [(1,(AN p1)),(2,(.fz 1 (p2.map AD))),(8,(.fz 1 (t6.map Fq)))] ⟨rfl,rfl,rfl,trivial⟩ rfl ?_ [(6,(.fz 1 (t14.map AD)))] [] ⟨rfl,trivial⟩ (.refl _) ?_
  ·refine⟨?_,?_,?_,?_,?_,?_,?_,?_,?_,?_,?_,?_,trivial⟩
   ·refine .a 1 ?_;exact .q 108
   ·refine .a 1 ?_;exact .q 109
   ·refine .a 1 ?_;exact .q 110
   ·refine .a 1 ?_;exact .q 111
   ·refine .a 1 ?_;exact .q 112
   ·refine .a 1 ?_;exact .q 113
   ·refine .a 1 ?_;exact .q 114
   ·refine .a 1 ?_;exact .q 115
   ·refine .a 1 ?_;exact .q 116
   ·refine .wK [114,115,116] ?_;refine .callS [(Ba (AA t6 (0:Int))),(AN p1),(.fz 1 (p2.map AD))] (.fz 1 (t13.map AD)) 117 rfl (by decide) OS rfl rfl rfl ⟨rfl,rfl,rfl,rfl,rfl,rfl,trivial⟩ (hself78 _ _ _ _ et13) ?_;exact .q 117
   ·refine .wK [110,111,117] ?_;refine .callS [(Ba (AA t6 (0:Int))),(AN p1),(.fz 1 (t13.map AD))] (.fz 1 (t14.map AD)) 118 rfl (by decide) Wp rfl rfl rfl ⟨rfl,rfl,rfl,rfl,rfl,rfl,trivial⟩ (hself106 _ _ _ _ et14) ?_;exact .q 118
   refine .a 1 ?_;exact .q 6
  refine .rK [6] ?_;have hr:=Option.some.inj h;subst hr;exact⟨[(.fz 1 (t14.map AD))],⟨rfl,rfl,trivial⟩,rfl⟩
 intro p0 p1 p2 r h;rw[F7.eq_2]at h;generalize hsself78:Bh k j=self78 at h hself78;generalize hsself106:F7 k j=self106 at h hself106;refine AY.intro (res:=[.tmp 6]) Tryz.func106 rfl rfl rfl (Nat.le_of_ble_eq_true rfl) ?_;refine .a 3 ?_;refine .nK [0,1,2] ?_;refine .seq_mid (fun ρ H=>∃ (x4:(List Bool)),ρ=[(2,(.fz 1 (x4.map AD)))]∧H=[]∧Lt k x4=some r) ?_ ?_
 ·refine .a 5 ?_;refine .wK [0,1,2,7] ?_;refine .loop (fun kq ρ H=>∃ (x5:(List Bool)) (x6:Int),ρ=[(0,(.fz 5 (p0.map AM))),(1,(AN p1)),(2,(.fz 1 (x5.map AD))),(7,(AB x6))]∧H=[]∧Cq k self78 p0 p1 kq x5 x6=some r) k ⟨p2,(0:Int),rfl,rfl,h⟩ ?_;rintro kq8 _ _ ⟨x5,x6,rfl,rfl,h⟩
  cases kq8 with
  | zero=>rw[Cq.eq_1]at h;cases h
  | succ kq8=>
  rw[Cq.eq_2]at h;generalize hrec7:Cq k self78 p0 p1 kq8=rec7 at h;refine .a 8 ?_;rcases oi h with⟨c9,h⟩|⟨c9,h⟩
  ·refine .a 1 ?_;refine .sK [0,1,2,7] ?_;refine .seq_mid (fun ρ H=>∃ (x10:(List Bool)),ρ=[(0,(.fz 5 (p0.map AM))),(1,(AN p1)),(2,(.fz 1 (x10.map AD))),(7,(AB x6))]∧H=[]∧Im k rec7 x6 x10=some r) ?_ ?_
   ·refine .a 7 ?_;obtain⟨t11,et11,h⟩:=ob h;refine .callS [(.fz 5 (p0.map AM)),(AN p1),(.fz 1 (x5.map AD))] (.fz 1 (t11.map AD)) 21 rfl (by decide) OS rfl rfl rfl ⟨rfl,rfl,rfl,rfl,rfl,rfl,trivial⟩ (hself78 _ _ _ _ et11) ?_;obtain⟨t12,et12,h⟩:=ob h;refine .callS [(.fz 1 (x5.map AD)),(.fz 1 (t11.map AD))] (.fz 1 (t12.map AD)) 22 rfl (by decide) SR rfl rfl rfl ⟨rfl,rfl,rfl,rfl,trivial⟩ (Hl et12) ?_;refine .a 5 ?_;refine .nK [0,1,2,7,8,9] ?_;refine .seq_mid (fun ρ H=>∃ (b13:Bool),ρ=[(0,(.fz 5 (p0.map AM))),(1,(AN p1)),(7,(AB x6)),(8,(.fz 1 (t12.map AD))),(9,(AD b13))]∧H=[]∧HF k rec7 x6 t12 b13=some r) ?_ ?_
    ·refine .a 5 ?_;refine .wK [0,1,2,7,8,9,10] ?_;refine .loop (fun kq ρ H=>∃ (b15:Bool) (x16:Int),ρ=[(0,(.fz 5 (p0.map AM))),(1,(AN p1)),(2,(.fz 1 (x5.map AD))),(7,(AB x6)),(8,(.fz 1 (t12.map AD))),(9,(AD b15)),(10,(AB x16))]∧H=[]∧DV k rec7 x5 x6 t12 kq b15 x16=some r) k ⟨true,(0:Int),rfl,rfl,h⟩ ?_;rintro kq18 _ _ ⟨b15,x16,rfl,rfl,h⟩
     cases kq18 with
     | zero=>rw[DV.eq_1]at h;cases h
     | succ kq18=>
     rw[DV.eq_2]at h;generalize hrec17:DV k rec7 x5 x6 t12 kq18=rec17 at h;refine .a 8 ?_;rcases oi h with⟨c19,h⟩|⟨c19,h⟩
     ·refine .a 4 ?_;obtain⟨b20,q21,h⟩:=ob h;refine .regQM (by rfl) (by decide+kernel) [(0,(.fz 5 (p0.map AM))),(1,(AN p1)),(2,(.fz 1 (x5.map AD))),(7,(AB x6)),(8,(.fz 1 (t12.map AD))),(9,(AD b20)),(10,(AB x16))] ?_ ?_
      ·refine .a 2 ?_;rcases oi q21 with⟨c22,q21⟩|⟨c22,q21⟩
       ·refine .a 2 ?_;obtain⟨g23,q21⟩:=AC q21;refine .a 4 ?_;obtain⟨g24,q21⟩:=AC q21;refine .a 2 ?_;refine .cG (x:=AD ((AA t12 x16)==(AA x5 x16))) rfl rfl (bD c22) (.boolEq rfl rfl rfl Tryz.underlying4) ?_;refine .a 2 ?_;cases q21;refine .nilE rfl ?_;exact⟨rfl,rfl,rfl,rfl,rfl,rfl,rfl,trivial⟩
       refine .a 11 ?_;cases q21;refine .nilE rfl ?_;exact⟨rfl,rfl,rfl,rfl,rfl,rfl,rfl,trivial⟩
      refine .a 4 ?_;refine .nK [0,1,2,7,8,9,10] ?_;exact⟨kq18,Nat.lt_succ_self _,b20,(AG (x16+(1:Int))),rfl,rfl,by rw[hrec17];exact h⟩
     refine .a 1 ?_;refine .eK [0,1,7,8,9] ?_;exact⟨b15,rfl,rfl,h⟩
    rintro _ _ ⟨b13,rfl,rfl,h⟩;rw[HF.eq_1]at h;refine .a 5 ?_;rcases oi h with⟨c14,h⟩|⟨c14,h⟩
    ·refine .a 5 ?_;refine .nK [6] ?_;refine .rK [6] ?_;have hr:=Option.some.inj h;subst hr;exact⟨[(.fz 1 (t12.map AD))],⟨rfl,rfl,trivial⟩,rfl⟩
    refine .a 5 ?_;refine .nK [0,1,2,7] ?_;exact⟨t12,rfl,rfl,h⟩
   rintro _ _ ⟨x10,rfl,rfl,h⟩;rw[Im.eq_1]at h;refine .a 4 ?_;refine .nK [0,1,2,7] ?_;exact⟨kq8,Nat.lt_succ_self _,x10,(AG (x6+(1:Int))),rfl,rfl,by rw[hrec7];exact h⟩
  refine .a 1 ?_;refine .eK [2] ?_;exact⟨x5,rfl,rfl,h⟩
 rintro _ _ ⟨x4,rfl,rfl,h⟩;rw[Lt.eq_1]at h;refine .a 4 ?_;refine .nK [6] ?_;refine .rK [6] ?_;have hr:=Option.some.inj h;subst hr;exact⟨[(.fz 1 (x4.map AD))],⟨rfl,rfl,trivial⟩,rfl⟩
theorem Ry {k:Nat} {p0:(List AE)} {p1:ByteArray} {p2:(List Bool)} {r:(List Bool)} (h:Xd k p0 p1 p2=some r):AY Tryz.prog 78 [(.fz 5 (p0.map AM)),(AN p1),(.fz 1 (p2.map AD))] (G7 r):=(UC k k).1 p0 p1 p2 r h
end Go.Avl.T8
namespace Go.Avl.T8
open Go Go.RowKit Go.Proofs Go.Avl
set_option linter.unusedVariables false
set_option maxRecDepth 100000
set_option maxHeartbeats 4000000
attribute [local irreducible] AW AO AQ AY Aq AH
def WS (k:Nat) (p0:(List AE)) (p1:ByteArray):Option Bool:=
 if 0≤(AG ((p1.size:Int)+(1:Int)))∧(AG ((p1.size:Int)+(1:Int)))*(1:Int)≤140737488355328∧(AG ((p1.size:Int)+(1:Int)))≤9223372036854775807 then if 0≤(0:Int)∧(0:Int)<((List.replicate (AG ((p1.size:Int)+(1:Int))).toNat false).length:Int)then(Xd k p0 p1 (AU (List.replicate (AG ((p1.size:Int)+(1:Int))).toNat false) (0:Int) true)).bind fun t6=>
 if 0≤(p1.size:Int)∧(p1.size:Int)<(t6.length:Int)then some ((AA t6 (p1.size:Int)))
 else none
 else none
 else none
theorem Na {k:Nat} {p0:(List AE)} {p1:ByteArray} {r:Bool} (h:WS k p0 p1=some r):AY Tryz.prog 46 [(.fz 5 (p0.map AM)),(AN p1)] (AD r):=by
 rw[WS.eq_1]at h;refine AY.intro (res:=[.tmp 4]) Tryz.func46 rfl rfl rfl (Nat.le_of_ble_eq_true rfl) ?_;refine .a 9 ?_;obtain⟨g4,h⟩:=AC h;refine .makeL (f:=AD) false rfl 9 rfl (by decide) rfl rfl rfl Tryz.underlying95 Bw KI G3 D9 rfl g4 fun n3=>?_;refine .a 5 ?_;obtain⟨g5,h⟩:=AC h;refine .a 1 ?_;refine .store 0 rfl rfl rfl rfl rfl rfl (.cast (.lidx (0:Int) true g5.1 g5.2 .here) (by omega)) rfl rfl Bw rfl ?_;refine .coe 5 (y':=(BL n3 (AU (List.replicate (AG ((p1.size:Int)+(1:Int))).toNat false) (0:Int) true).length)) rfl (fun _ _ h=>Ad h) ?_;refine .coe 10 (y':=(BL n3 (AU (List.replicate (AG ((p1.size:Int)+(1:Int))).toNat false) (0:Int) true).length)) rfl (fun _ _ h=>Ad h) ?_;refine .a 6 ?_;obtain⟨t6,et6,h⟩:=ob h;refine .freezeS 0 [(5,(Ln (AU (List.replicate (AG ((p1.size:Int)+(1:Int))).toNat false) (0:Int) true))),(14,(Ln (AU (List.replicate (AG ((p1.size:Int)+(1:Int))).toNat false) (0:Int) true)))] rfl ⟨Aj rfl,Aj rfl,trivial⟩ ?_;refine .callS [(.fz 5 (p0.map AM)),(AN p1),(Ln (AU (List.replicate (AG ((p1.size:Int)+(1:Int))).toNat false) (0:Int) true))] (.fz 1 (t6.map AD)) 15 rfl (by decide) OS rfl rfl rfl ⟨rfl,rfl,rfl,rfl,rfl,rfl,trivial⟩ (Ry et6) ?_;refine .a 2 ?_;obtain⟨g7,h⟩:=AC h;refine .a 3 ?_;refine .nK [4] ?_;refine .rK [4] ?_;cases h;exact⟨[(AD (AA t6 (p1.size:Int)))],⟨rfl,rfl,trivial⟩,rfl⟩
def Gy (k:Nat) (p0:(List CN)) (p1:Int):Option Int:=
 Option.bind (α:=Bool) (if((AA p0 p1).f1)<(0:Int)then some (true)
 else some (decide ((2:Int)<((AA p0 p1).f1)))) fun b7=>
 if b7=true then some ((1:Int))
 else(R8 k ((AA p0 p1).f2)).bind fun t11=>
 if t11.2≠(0:Int)then some (t11.2)
 else(WS k t11.1 (ByteArray.mk #[])).bind fun t13=>
 if t13=true then some ((14:Int))
 else some ((0:Int))
def Ck (k:Nat) (p0:(List CN)) (p1:Int):Nat→Int→Option Int
 | 0,_=>none
 | j+1,x15=>
   if x15<p1 then if 0≤x15∧x15<(p0.length:Int)then if((AA p0 x15).f0)=((AA p0 p1).f0)then some ((9:Int))
   else(Ck k p0 p1 j) (AG (x15+(1:Int)))
   else none
   else Gy k p0 p1
def Vx (k:Nat) (p0:(List CN)) (p1:Int):Option Int:=
 if 0≤p1∧p1<(p0.length:Int)then(aJ k ((AA p0 p1).f0)).bind fun t5=>
 if(!t5)=true then some ((8:Int))
 else Ck k p0 p1 k (0:Int)
 else none
theorem S3 {k:Nat} {p0:(List CN)} {p1:Int} {r:Int} (h:Vx k p0 p1=some r):AY Tryz.prog 41 [(.fz 3 (p0.map Es)),(AB p1)] (AB r):=by
 rw[Vx.eq_1]at h;refine AY.intro (res:=[.tmp 4]) Tryz.func41 rfl rfl rfl (Nat.le_of_ble_eq_true rfl) ?_;refine .a 8 ?_;obtain⟨g3,h⟩:=AC h;refine .a 2 ?_;refine .alloc rfl 5 rfl (by decide) rfl RO LJ fun n4=>?_;refine .store 0 rfl rfl rfl rfl rfl rfl (.cast .here rfl) rfl rfl Om rfl ?_;refine .a 6 ?_;obtain⟨t5,et5,h⟩:=ob h;refine .callS [(AN ((AA p0 p1).f0))] (AD t5) 15 rfl (by decide) cX rfl rfl rfl ⟨rfl,rfl,trivial⟩ (TH et5) ?_;refine .a 2 ?_;rcases oi h with⟨c6,h⟩|⟨c6,h⟩
 ·refine .a 4 ?_;refine .nS [4] [] ?_;refine .rK [4] ?_;cases h;exact⟨[(AB (8:Int))],⟨rfl,rfl,trivial⟩,rfl⟩
 refine .a 1 ?_;refine .sK [0,1,5] ?_;refine .seq_mid (fun ρ H=>ρ=[(5,(.ptr n4 0))]∧H=[(n4,(.mem (Es (AA p0 p1))))]∧Gy k p0 p1=some r) ?_ ?_
 ·refine .a 5 ?_;refine .wK [0,1,5,6] ?_;refine .loop (fun kq ρ H=>∃ (x15:Int),ρ=[(0,(.fz 3 (p0.map Es))),(1,(AB p1)),(5,(.ptr n4 0)),(6,(AB x15))]∧H=[(n4,(.mem (Es (AA p0 p1))))]∧Ck k p0 p1 kq x15=some r) k ⟨(0:Int),rfl,rfl,h⟩ ?_;rintro kq17 _ _ ⟨x15,rfl,rfl,h⟩
  cases kq17 with
  | zero=>rw[Ck.eq_1]at h;cases h
  | succ kq17=>
  rw[Ck.eq_2]at h;generalize hrec16:Ck k p0 p1 kq17=rec16 at h;refine .a 7 ?_;rcases oi h with⟨c18,h⟩|⟨c18,h⟩
  ·refine .a 5 ?_;refine .regQ (by rfl) (by decide+kernel) ?_;refine .a 2 ?_;obtain⟨g19,h⟩:=AC h;refine .a 1 ?_;refine .c (.fldRp rfl rfl Tryz.underlying53 rfl X4 (.cast (.fld0 .here) rfl)) ?_;refine .a 5 ?_;rcases oi h with⟨c20,h⟩|⟨c20,h⟩
   ·refine .a 4 ?_;refine .nS [4] [] ?_;refine .rK [4] ?_;cases h;exact⟨[(AB (9:Int))],⟨rfl,rfl,trivial⟩,rfl⟩
   refine .a 6 ?_;refine .nK [0,1,5,6] ?_;exact⟨kq17,Nat.lt_succ_self _,(AG (x15+(1:Int))),rfl,rfl,by rw[hrec16];exact h⟩
  refine .a 1 ?_;refine .eK [5] ?_;exact⟨rfl,rfl,h⟩
 rintro _ _ ⟨rfl,rfl,h⟩;rw[Gy.eq_1]at h;refine .a 2 ?_;obtain⟨b7,q8,h⟩:=ob h;refine .regM [(5,(.ptr n4 0)),(37,(AD b7))] [(n4,(.mem (Es (AA p0 p1))))] ?_ ?_
 ·refine .a 4 ?_;rcases oi q8 with⟨c9,q8⟩|⟨c9,q8⟩
  ·refine .a 4 ?_;cases q8;refine .nilE ⟨rfl,rfl⟩ ?_ ?_
   ·exact⟨rfl,rfl,trivial⟩
   exact(.refl _)
  refine .a 4 ?_;cases q8;refine .nilE ⟨rfl,rfl⟩ ?_ ?_
  ·exact⟨rfl,rfl,trivial⟩
  exact(.refl _)
 rcases oi h with⟨c10,h⟩|⟨c10,h⟩
 ·refine .a 4 ?_;refine .nS [4] [] ?_;refine .rK [4] ?_;cases h;exact⟨[(AB (1:Int))],⟨rfl,rfl,trivial⟩,rfl⟩
 refine .a 6 ?_;obtain⟨t11,et11,h⟩:=ob h;refine .callS [(AN ((AA p0 p1).f2))] (.tup [(Ba t11.1),(AB t11.2)]) 41 rfl (by decide) Y2 rfl rfl rfl ⟨rfl,rfl,trivial⟩ (NI et11) ?_;refine .a 5 ?_;refine .nS [7,8] [] ?_;refine .a 6 ?_;rcases oi h with⟨c12,h⟩|⟨c12,h⟩
 ·refine .a 5 ?_;refine .nK [4] ?_;refine .rK [4] ?_;cases h;exact⟨[(AB t11.2)],⟨rfl,rfl,trivial⟩,rfl⟩
 refine .a 6 ?_;obtain⟨t13,et13,h⟩:=ob h;refine .callS [(Ba t11.1),(AN (ByteArray.mk #[]))] (AD t13) 48 rfl (by decide) aG rfl rfl rfl ⟨rfl,rfl,rfl,rfl,trivial⟩ (Na et13) ?_;refine .a 1 ?_;rcases oi h with⟨c14,h⟩|⟨c14,h⟩
 ·refine .a 4 ?_;refine .nK [4] ?_;refine .rK [4] ?_;cases h;exact⟨[(AB (14:Int))],⟨rfl,rfl,trivial⟩,rfl⟩
 refine .a 5 ?_;refine .nK [4] ?_;refine .rK [4] ?_;cases h;exact⟨[(AB (0:Int))],⟨rfl,rfl,trivial⟩,rfl⟩
def O6 (k:Nat) (p0:(List CN)):Option (Int×Int):=
 some ((p0.length:Int),(0:Int))
def Co (k:Nat) (p0:(List CN)):Nat→Int→Option (Int×Int)
 | 0,_=>none
 | j+1,x3=>
   if x3<(p0.length:Int)then(Vx k p0 x3).bind fun t7=>
   if t7≠(0:Int)then some (x3,t7)
   else(Co k p0 j) (AG (x3+(1:Int)))
   else O6 k p0
def aW (k:Nat) (p0:(List CN)):Option (Int×Int):=
 if(60:Int)<(p0.length:Int)then some ((p0.length:Int),(6:Int))
 else Co k p0 k (0:Int)
theorem Ui {k:Nat} {p0:(List CN)} {r:(Int×Int)} (h:aW k p0=some r):AY Tryz.prog 13 [(.fz 3 (p0.map Es))] (.tup [(AB r.1),(AB r.2)]):=by
 rw[aW.eq_1]at h;refine AY.intro (res:=[.tmp 2,.tmp 3]) Tryz.func13 rfl rfl rfl (Nat.le_of_ble_eq_true rfl) ?_;refine .a 12 ?_;rcases oi h with⟨c2,h⟩|⟨c2,h⟩
 ·refine .a 7 ?_;refine .nK [2,3] ?_;refine .rK [2,3] ?_;cases h;exact⟨[(AB (p0.length:Int)),(AB (6:Int))],⟨rfl,rfl,rfl,rfl,trivial⟩,rfl⟩
 refine .a 1 ?_;refine .sK [0] ?_;refine .seq_mid (fun ρ H=>ρ=[(0,(.fz 3 (p0.map Es)))]∧H=[]∧O6 k p0=some r) ?_ ?_
 ·refine .a 5 ?_;refine .wK [0,4] ?_;refine .loop (fun kq ρ H=>∃ (x3:Int),ρ=[(0,(.fz 3 (p0.map Es))),(4,(AB x3))]∧H=[]∧Co k p0 kq x3=some r) k ⟨(0:Int),rfl,rfl,h⟩ ?_;rintro kq5 _ _ ⟨x3,rfl,rfl,h⟩
  cases kq5 with
  | zero=>rw[Co.eq_1]at h;cases h
  | succ kq5=>
  rw[Co.eq_2]at h;generalize hrec4:Co k p0 kq5=rec4 at h;refine .a 8 ?_;rcases oi h with⟨c6,h⟩|⟨c6,h⟩
  ·refine .a 8 ?_;obtain⟨t7,et7,h⟩:=ob h;refine .callS [(.fz 3 (p0.map Es)),(AB x3)] (AB t7) 19 rfl (by decide) cd rfl rfl rfl ⟨rfl,rfl,rfl,rfl,trivial⟩ (S3 et7) ?_;refine .a 7 ?_;rcases oi h with⟨c8,h⟩|⟨c8,h⟩
   ·refine .a 7 ?_;refine .nK [2,3] ?_;refine .rK [2,3] ?_;have hr:=Option.some.inj h;subst hr;exact⟨[(AB x3),(AB t7)],⟨rfl,rfl,rfl,rfl,trivial⟩,rfl⟩
   refine .a 6 ?_;refine .nK [0,4] ?_;exact⟨kq5,Nat.lt_succ_self _,(AG (x3+(1:Int))),rfl,rfl,by rw[hrec4];exact h⟩
  refine .a 1 ?_;refine .eK [0] ?_;exact⟨rfl,rfl,h⟩
 rintro _ _ ⟨rfl,rfl,h⟩;rw[O6.eq_1]at h;refine .a 6 ?_;refine .nK [2,3] ?_;refine .rK [2,3] ?_;cases h;exact⟨[(AB (p0.length:Int)),(AB (0:Int))],⟨rfl,rfl,rfl,rfl,trivial⟩,rfl⟩
def Lj (k:Nat) (x3:Int):Option Int:=
 some (x3)
def E5 (k:Nat) (p0:AI):Nat→Int→Int→Option Int
 | 0,_,_=>none
 | j+1,x4,x5=>
   if x5<(256:Int)then if 0≤x5∧x5<(256:Int)then(E5 k p0 j) (max x4 (AG ((AG (AZ p0.f0 x5))+(1:Int)))) (AG (x5+(1:Int)))
   else none
   else Lj k x4
def ZR (k:Nat) (p0:AI):Option Int:=
 E5 k p0 k (0:Int) (0:Int)
theorem OZ {k:Nat} {p0:AI} {r:Int} (h:ZR k p0=some r):AY Tryz.prog 43 [(Ak p0)] (AB r):=by
 rw[ZR.eq_1]at h;refine AY.intro (res:=[.tmp 2]) Tryz.func43 rfl rfl rfl (Nat.le_of_ble_eq_true rfl) ?_;refine .sr ?_;refine .box rfl 1 rfl (by decide) rfl rfl rfl fun n2=>?_;refine .a 5 ?_;refine .nK [1,3] ?_;refine .seq_mid (fun ρ H=>∃ (x3:Int),ρ=[(3,(AB x3))]∧H=[]∧Lj k x3=some r) ?_ ?_
 ·refine .a 5 ?_;refine .wK [1,3,4] ?_;refine .loop (fun kq ρ H=>∃ (x4:Int) (x5:Int),ρ=[(1,(.ptr n2 0)),(3,(AB x4)),(4,(AB x5))]∧H=[(n2,(.mem (Ak p0)))]∧E5 k p0 kq x4 x5=some r) k ⟨(0:Int),(0:Int),rfl,rfl,h⟩ ?_;rintro kq7 _ _ ⟨x4,x5,rfl,rfl,h⟩
  cases kq7 with
  | zero=>rw[E5.eq_1]at h;cases h
  | succ kq7=>
  rw[E5.eq_2]at h;generalize hrec6:E5 k p0 kq7=rec6 at h;refine .a 6 ?_;rcases oi h with⟨c8,h⟩|⟨c8,h⟩
  ·refine .a 8 ?_;obtain⟨g9,h⟩:=AC h;refine .c (.idxP rfl rfl rfl g9 Tryz.underlying38 Ew) ?_;refine .c (.load 0 rfl rfl rfl (.cast (.fld0 (.vidx x5 g9.1 g9.2 .here)) (by omega)) Ol Ew) ?_;refine .c (x:=AB (AG (AZ p0.f0 x5))) (.conv rfl rfl Tryz.underlying5 Tryz.underlying3) ?_;refine .c (x:=AB (AG ((AG (AZ p0.f0 x5))+(1:Int)))) (.int rfl rfl rfl rfl) ?_;refine .c (x:=AB (max x4 (AG ((AG (AZ p0.f0 x5))+(1:Int))))) (.max2 rfl rfl rfl) ?_;refine .a 6 ?_;refine .nK [1,3,4] ?_;exact⟨kq7,Nat.lt_succ_self _,(max x4 (AG ((AG (AZ p0.f0 x5))+(1:Int)))),(AG (x5+(1:Int))),rfl,rfl,by rw[hrec6];exact h⟩
  refine .a 1 ?_;refine .eH [3] (H':=[]) (.nil _) ?_;exact⟨x4,rfl,rfl,h⟩
 rintro _ _ ⟨x3,rfl,rfl,h⟩;rw[Lj.eq_1]at h;refine .a 4 ?_;refine .nK [2] ?_;refine .rK [2] ?_;have hr:=Option.some.inj h;subst hr;exact⟨[(AB x3)],⟨rfl,rfl,trivial⟩,rfl⟩
def Lf (k:Nat):Option Bool:=
 some (true)
def M3 (k:Nat) (rec4:(Int→Option Bool)) (x3:Int):Option Bool:=
 rec4 (AG (x3+(1:Int)))
def JX (k:Nat) (rec4:(Int→Option Bool)) (x3:Int) (b8:Bool):Option Bool:=
 if(!b8)=true then some (false)
 else M3 k rec4 x3
def FE (k:Nat) (rec4:(Int→Option Bool)) (p0:AI) (x3:Int):Nat→Bool→Int→Option Bool
 | 0,_,_=>none
 | j+1,b10,x11=>
   if x11<(256:Int)then Option.bind (α:=Bool) (if b10=true then some (true)
   else if 0≤x11∧x11<(256:Int)then some (decide ((AG (AZ p0.f0 x11))=x3))
   else none) fun b15=>
   (FE k rec4 p0 x3 j) b15 (AG (x11+(1:Int)))
   else JX k rec4 x3 b10
def EU (k:Nat) (p0:AI):Nat→Int→Option Bool
 | 0,_=>none
 | j+1,x3=>
   (ZR k p0).bind fun t6=>
   if x3<t6 then FE k (EU k p0 j) p0 x3 k false (0:Int)
   else Lf k
def ax (k:Nat) (p0:AI):Option Bool:=
 EU k p0 k (0:Int)
theorem TN {k:Nat} {p0:AI} {r:Bool} (h:ax k p0=some r):AY Tryz.prog 42 [(Ak p0)] (AD r):=by
 rw[ax.eq_1]at h;refine AY.intro (res:=[.tmp 2]) Tryz.func42 rfl rfl rfl (Nat.le_of_ble_eq_true rfl) ?_;refine .sr ?_;refine .box rfl 1 rfl (by decide) rfl rfl rfl fun n2=>?_;refine .a 1 ?_;refine .nK [1] ?_;refine .seq_mid (fun ρ H=>ρ=[]∧H=[]∧Lf k=some r) ?_ ?_
 ·refine .a 5 ?_;refine .wK [1,3] ?_;refine .loop (fun kq ρ H=>∃ (x3:Int),ρ=[(1,(.ptr n2 0)),(3,(AB x3))]∧H=[(n2,(.mem (Ak p0)))]∧EU k p0 kq x3=some r) k ⟨(0:Int),rfl,rfl,h⟩ ?_;rintro kq5 _ _ ⟨x3,rfl,rfl,h⟩
  cases kq5 with
  | zero=>rw[EU.eq_1]at h;cases h
  | succ kq5=>
  rw[EU.eq_2]at h;generalize hrec4:EU k p0 kq5=rec4 at h;refine .a 5 ?_;obtain⟨t6,et6,h⟩:=ob h;refine .callS [(Ak p0)] (AB t6) 8 rfl (by decide) ai rfl rfl rfl ⟨rfl,rfl,trivial⟩ (OZ et6) ?_;refine .a 2 ?_;rcases oi h with⟨c7,h⟩|⟨c7,h⟩
  ·refine .a 1 ?_;refine .sK [1,3] ?_;refine .seq_mid (fun ρ H=>ρ=[(1,(.ptr n2 0)),(3,(AB x3))]∧H=[(n2,(.mem (Ak p0)))]∧M3 k rec4 x3=some r) ?_ ?_
   ·refine .a 4 ?_;refine .nK [1,3,4] ?_;refine .seq_mid (fun ρ H=>∃ (b8:Bool),ρ=[(1,(.ptr n2 0)),(3,(AB x3)),(4,(AD b8))]∧H=[(n2,(.mem (Ak p0)))]∧JX k rec4 x3 b8=some r) ?_ ?_
    ·refine .a 5 ?_;refine .wK [1,3,4,5] ?_;refine .loop (fun kq ρ H=>∃ (b10:Bool) (x11:Int),ρ=[(1,(.ptr n2 0)),(3,(AB x3)),(4,(AD b10)),(5,(AB x11))]∧H=[(n2,(.mem (Ak p0)))]∧FE k rec4 p0 x3 kq b10 x11=some r) k ⟨false,(0:Int),rfl,rfl,h⟩ ?_;rintro kq13 _ _ ⟨b10,x11,rfl,rfl,h⟩
     cases kq13 with
     | zero=>rw[FE.eq_1]at h;cases h
     | succ kq13=>
     rw[FE.eq_2]at h;generalize hrec12:FE k rec4 p0 x3 kq13=rec12 at h;refine .a 6 ?_;rcases oi h with⟨c14,h⟩|⟨c14,h⟩
     ·refine .a 4 ?_;obtain⟨b15,q16,h⟩:=ob h;refine .regM [(1,(.ptr n2 0)),(3,(AB x3)),(4,(AD b15)),(5,(AB x11))] [(n2,(.mem (Ak p0)))] ?_ ?_
      ·refine .a 2 ?_;rcases oi q16 with⟨c17,q16⟩|⟨c17,q16⟩
       ·refine .a 9 ?_;cases q16;refine .nilE ⟨rfl,rfl⟩ ?_ ?_
        ·exact⟨rfl,rfl,rfl,rfl,trivial⟩
        exact(.refl _)
       refine .a 2 ?_;obtain⟨g18,q16⟩:=AC q16;refine .cG rfl rfl (bD (eq_false_of_ne_true c17)) (.idxP rfl rfl rfl g18 Tryz.underlying38 Ew) ?_;refine .cG rfl rfl (bD (eq_false_of_ne_true c17)) (.load 0 rfl rfl rfl (.cast (.fld0 (.vidx x11 g18.1 g18.2 .here)) (by omega)) Ol Ew) ?_;refine .cG (x:=AB (AG (AZ p0.f0 x11))) rfl rfl (bD (eq_false_of_ne_true c17)) (.conv rfl rfl Tryz.underlying5 Tryz.underlying3) ?_;refine .cG rfl rfl (bD (eq_false_of_ne_true c17)) (.move rfl rfl) ?_;refine .cG (x:=AD (decide ((AG (AZ p0.f0 x11))=x3))) rfl rfl (bD (eq_false_of_ne_true c17)) (.int rfl rfl rfl rfl) ?_;refine .c (.pickF rfl (bD (eq_false_of_ne_true c17)) rfl) ?_;refine .ag rfl rfl ?_;cases q16;refine .nilE ⟨rfl,rfl⟩ ?_ ?_
       ·exact⟨rfl,rfl,rfl,rfl,trivial⟩
       exact(.refl _)
      refine .a 4 ?_;refine .nK [1,3,4,5] ?_;exact⟨kq13,Nat.lt_succ_self _,b15,(AG (x11+(1:Int))),rfl,rfl,by rw[hrec12];exact h⟩
     refine .a 1 ?_;refine .eK [1,3,4] ?_;exact⟨b10,rfl,rfl,h⟩
    rintro _ _ ⟨b8,rfl,rfl,h⟩;rw[JX.eq_1]at h;refine .a 5 ?_;rcases oi h with⟨c9,h⟩|⟨c9,h⟩
    ·refine .a 4 ?_;refine .nS [2] [] ?_;refine .rK [2] ?_;have hr:=Option.some.inj h;subst hr;exact⟨[(AD false)],⟨rfl,rfl,trivial⟩,rfl⟩
    refine .a 1 ?_;refine .sK [1,3] ?_;exact⟨rfl,rfl,h⟩
   rintro _ _ ⟨rfl,rfl,h⟩;rw[M3.eq_1]at h;refine .a 4 ?_;refine .nK [1,3] ?_;exact⟨kq5,Nat.lt_succ_self _,(AG (x3+(1:Int))),rfl,rfl,by rw[hrec4];exact h⟩
  refine .a 1 ?_;refine .eH [] (H':=[]) (.nil _) ?_;exact⟨rfl,rfl,h⟩
 rintro _ _ ⟨rfl,rfl,h⟩;rw[Lf.eq_1]at h;refine .a 3 ?_;refine .nK [2] ?_;refine .rK [2] ?_;have hr:=Option.some.inj h;subst hr;exact⟨[(AD true)],⟨rfl,rfl,trivial⟩,rfl⟩
def Pd (k:Nat):Option Bool:=
 some (true)
def JT (k:Nat) (rec11:(Int→Option Bool)) (x10:Int):Option Bool:=
 rec11 (AG (x10+(1:Int)))
def FC (k:Nat) (rec11:(Int→Option Bool)) (p0:AI) (x10:Int):Nat→Int→Option Bool
 | 0,_=>none
 | j+1,x23=>
   if 0≤x10∧x10<(p0.f1.length:Int)then if x23<((AA p0.f1 x10).length:Int)then Option.bind (α:=Bool) (if 0≤x10∧x10<(p0.f1.length:Int)then if 0≤x23∧x23<((AA p0.f1 x10).length:Int)then if(AA (AA p0.f1 x10) x23)<(-1:Int)then some (true)
   else if 0≤x10∧x10<(p0.f1.length:Int)then if 0≤x23∧x23<((AA p0.f1 x10).length:Int)then some (decide ((p0.f1.length:Int)≤(AA (AA p0.f1 x10) x23)))
   else none
   else none
   else none
   else none) fun b28=>
   if b28=true then some (false)
   else(FC k rec11 p0 x10 j) (AG (x23+(1:Int)))
   else JT k rec11 x10
   else none
def EJ (k:Nat) (p0:AI):Nat→Int→Option Bool
 | 0,_=>none
 | j+1,x10=>
   if x10<(p0.f1.length:Int)then Option.bind (α:=Bool) (if 0≤x10∧x10<(p0.f1.length:Int)then(ZR k p0).bind fun t17=>
   if((AA p0.f1 x10).length:Int)≠t17 then some (true)
   else if 0≤x10∧x10<(p0.f2.length:Int)then if(AA p0.f2 x10)<(-1:Int)then some (true)
   else if 0≤x10∧x10<(p0.f2.length:Int)then some (decide ((32768:Int)≤(AA p0.f2 x10)))
   else none
   else none
   else none) fun b14=>
   if b14=true then some (false)
   else FC k (EJ k p0 j) p0 x10 k (0:Int)
   else Pd k
def Yq (k:Nat) (p0:AI):Option Bool:=
 Option.bind (α:=Bool) (if(p0.f1.length:Int)<(1:Int)then some (true)
 else if(32768:Int)<(p0.f1.length:Int)then some (true)
 else if(p0.f2.length:Int)≠(p0.f1.length:Int)then some (true)
 else(ax k p0).bind fun t8=>
 some (!t8)) fun b3=>
 if b3=true then some (false)
 else EJ k p0 k (0:Int)
theorem SG {k:Nat} {p0:AI} {r:Bool} (h:Yq k p0=some r):AY Tryz.prog 14 [(Ak p0)] (AD r):=by
 rw[Yq.eq_1]at h;refine AY.intro (res:=[.tmp 2]) Tryz.func14 rfl rfl rfl (Nat.le_of_ble_eq_true rfl) ?_;refine .sr ?_;refine .box rfl 1 rfl (by decide) rfl rfl rfl fun n2=>?_;refine .a 11 ?_;obtain⟨b3,q4,h⟩:=ob h;refine .regM [(1,(.ptr n2 0)),(3,(AB (p0.f1.length:Int))),(26,(AD b3))] [(n2,(.mem (Ak p0)))] ?_ ?_
 ·refine .a 3 ?_;rcases oi q4 with⟨c5,q4⟩|⟨c5,q4⟩
  ·refine .a 15 ?_;cases q4;refine .nilE ⟨rfl,rfl⟩ ?_ ?_
   ·exact⟨rfl,rfl,rfl,trivial⟩
   exact(.refl _)
  refine .a 4 ?_;rcases oi q4 with⟨c6,q4⟩|⟨c6,q4⟩
  ·refine .a 11 ?_;cases q4;refine .nilE ⟨rfl,rfl⟩ ?_ ?_
   ·exact⟨rfl,rfl,rfl,trivial⟩
   exact(.refl _)
  refine .a 7 ?_;rcases oi q4 with⟨c7,q4⟩|⟨c7,q4⟩
  ·refine .a 4 ?_;cases q4;refine .nilE ⟨rfl,rfl⟩ ?_ ?_
   ·exact⟨rfl,rfl,rfl,trivial⟩
   exact(.refl _)
  refine .a 1 ?_;obtain⟨t8,et8,q4⟩:=ob q4;refine .callG 13 false 22 [(Ak p0)] (AD t8) 24 rfl (by decide) cK rfl rfl (bD (decide_eq_false c7)) rfl rfl ⟨rfl,rfl,trivial⟩ (TN et8) ?_;refine .a 2 ?_;cases q4;refine .nilE ⟨rfl,rfl⟩ ?_ ?_
  ·exact⟨rfl,rfl,rfl,trivial⟩
  exact(.refl _)
 rcases oi h with⟨c9,h⟩|⟨c9,h⟩
 ·refine .a 4 ?_;refine .nS [2] [] ?_;refine .rK [2] ?_;have hr:=Option.some.inj h;subst hr;exact⟨[(AD false)],⟨rfl,rfl,trivial⟩,rfl⟩
 refine .a 1 ?_;refine .sK [1,3] ?_;refine .seq_mid (fun ρ H=>ρ=[]∧H=[]∧Pd k=some r) ?_ ?_
 ·refine .a 5 ?_;refine .wK [1,3,4] ?_;refine .loop (fun kq ρ H=>∃ (x10:Int),ρ=[(1,(.ptr n2 0)),(3,(AB (p0.f1.length:Int))),(4,(AB x10))]∧H=[(n2,(.mem (Ak p0)))]∧EJ k p0 kq x10=some r) k ⟨(0:Int),rfl,rfl,h⟩ ?_;rintro kq12 _ _ ⟨x10,rfl,rfl,h⟩
  cases kq12 with
  | zero=>rw[EJ.eq_1]at h;cases h
  | succ kq12=>
  rw[EJ.eq_2]at h;generalize hrec11:EJ k p0 kq12=rec11 at h;refine .a 7 ?_;rcases oi h with⟨c13,h⟩|⟨c13,h⟩
  ·refine .a 1 ?_;refine .sK [1,3,4] ?_;refine .seq_mid (fun ρ H=>ρ=[(1,(.ptr n2 0)),(3,(AB (p0.f1.length:Int))),(4,(AB x10))]∧H=[(n2,(.mem (Ak p0)))]∧JT k rec11 x10=some r) ?_ ?_
   ·refine .a 3 ?_;obtain⟨b14,q15,h⟩:=ob h;refine .regQM (by rfl) (by decide+kernel) [(1,(.ptr n2 0)),(3,(AB (p0.f1.length:Int))),(4,(AB x10)),(56,(AD b14))] ?_ ?_
    ·refine .a 3 ?_;obtain⟨g16,q15⟩:=AC q15;refine .a 4 ?_;obtain⟨t17,et17,q15⟩:=ob q15;refine .c (.call (args:=[(Ak p0)]) rfl rfl ai ⟨rfl,rfl,trivial⟩ rfl (OZ et17)) ?_;refine .a 2 ?_;rcases oi q15 with⟨c18,q15⟩|⟨c18,q15⟩
     ·refine .a 15 ?_;cases q15;refine .nilE rfl ?_;exact⟨rfl,rfl,rfl,rfl,trivial⟩
     refine .a 3 ?_;obtain⟨g19,q15⟩:=AC q15;refine .a 5 ?_;rcases oi q15 with⟨c20,q15⟩|⟨c20,q15⟩
     ·refine .a 7 ?_;cases q15;refine .nilE rfl ?_;exact⟨rfl,rfl,rfl,rfl,trivial⟩
     refine .a 3 ?_;obtain⟨g21,q15⟩:=AC q15;refine .a 4 ?_;cases q15;refine .nilE rfl ?_;exact⟨rfl,rfl,rfl,rfl,trivial⟩
    rcases oi h with⟨c22,h⟩|⟨c22,h⟩
    ·refine .a 4 ?_;refine .nS [2] [] ?_;refine .rK [2] ?_;have hr:=Option.some.inj h;subst hr;exact⟨[(AD false)],⟨rfl,rfl,trivial⟩,rfl⟩
    refine .a 7 ?_;refine .wK [1,3,4,5] ?_;refine .loop (fun kq ρ H=>∃ (x23:Int),ρ=[(1,(.ptr n2 0)),(3,(AB (p0.f1.length:Int))),(4,(AB x10)),(5,(AB x23))]∧H=[(n2,(.mem (Ak p0)))]∧FC k rec11 p0 x10 kq x23=some r) k ⟨(0:Int),rfl,rfl,h⟩ ?_;rintro kq25 _ _ ⟨x23,rfl,rfl,h⟩
    cases kq25 with
    | zero=>rw[FC.eq_1]at h;cases h
    | succ kq25=>
    rw[FC.eq_2]at h;generalize hrec24:FC k rec11 p0 x10 kq25=rec24 at h;refine .a 7 ?_;obtain⟨g26,h⟩:=AC h;refine .a 5 ?_;rcases oi h with⟨c27,h⟩|⟨c27,h⟩
    ·refine .a 5 ?_;obtain⟨b28,q29,h⟩:=ob h;refine .regM [(1,(.ptr n2 0)),(3,(AB (p0.f1.length:Int))),(4,(AB x10)),(5,(AB x23)),(87,(AD b28))] [(n2,(.mem (Ak p0)))] ?_ ?_
     ·refine .a 3 ?_;obtain⟨g30,q29⟩:=AC q29;refine .a 3 ?_;obtain⟨g31,q29⟩:=AC q29;refine .a 4 ?_;rcases oi q29 with⟨c32,q29⟩|⟨c32,q29⟩
      ·refine .a 11 ?_;cases q29;refine .nilE ⟨rfl,rfl⟩ ?_ ?_
       ·exact⟨rfl,rfl,rfl,rfl,rfl,trivial⟩
       exact(.refl _)
      refine .a 3 ?_;obtain⟨g33,q29⟩:=AC q29;refine .a 3 ?_;obtain⟨g34,q29⟩:=AC q29;refine .a 5 ?_;cases q29;refine .nilE ⟨rfl,rfl⟩ ?_ ?_
      ·exact⟨rfl,rfl,rfl,rfl,rfl,trivial⟩
      exact(.refl _)
     rcases oi h with⟨c35,h⟩|⟨c35,h⟩
     ·refine .a 4 ?_;refine .nS [2] [] ?_;refine .rK [2] ?_;have hr:=Option.some.inj h;subst hr;exact⟨[(AD false)],⟨rfl,rfl,trivial⟩,rfl⟩
     refine .a 6 ?_;refine .nK [1,3,4,5] ?_;exact⟨kq25,Nat.lt_succ_self _,(AG (x23+(1:Int))),rfl,rfl,by rw[hrec24];exact h⟩
    refine .a 1 ?_;refine .eK [1,3,4] ?_;exact⟨rfl,rfl,h⟩
   rintro _ _ ⟨rfl,rfl,h⟩;rw[JT.eq_1]at h;refine .a 4 ?_;refine .nK [1,3,4] ?_;exact⟨kq12,Nat.lt_succ_self _,(AG (x10+(1:Int))),rfl,rfl,by rw[hrec11];exact h⟩
  refine .a 1 ?_;refine .eH [] (H':=[]) (.nil _) ?_;exact⟨rfl,rfl,h⟩
 rintro _ _ ⟨rfl,rfl,h⟩;rw[Pd.eq_1]at h;refine .a 3 ?_;refine .nK [2] ?_;refine .rK [2] ?_;have hr:=Option.some.inj h;subst hr;exact⟨[(AD true)],⟨rfl,rfl,trivial⟩,rfl⟩
def Pm (k:Nat):Option Int:=
 some ((-1:Int))
def FN (k:Nat) (p0:(List CN)) (p1:ByteArray):Nat→Int→Option Int
 | 0,_=>none
 | j+1,x3=>
   if x3<(p0.length:Int)then if 0≤x3∧x3<(p0.length:Int)then(R8 k ((AA p0 x3).f2)).bind fun t8=>
   (WS k t8.1 p1).bind fun t9=>
   if t9=true then some (x3)
   else(FN k p0 p1 j) (AG (x3+(1:Int)))
   else none
   else Pm k
def aj (k:Nat) (p0:(List CN)) (p1:ByteArray):Option Int:=
 FN k p0 p1 k (0:Int)
theorem Um {k:Nat} {p0:(List CN)} {p1:ByteArray} {r:Int} (h:aj k p0 p1=some r):AY Tryz.prog 17 [(.fz 3 (p0.map Es)),(AN p1)] (AB r):=by
 rw[aj.eq_1]at h;refine AY.intro (res:=[.tmp 4]) Tryz.func17 rfl rfl rfl (Nat.le_of_ble_eq_true rfl) ?_;refine .a 3 ?_;refine .nK [0,1] ?_;refine .seq_mid (fun ρ H=>ρ=[]∧H=[]∧Pm k=some r) ?_ ?_
 ·refine .a 5 ?_;refine .wK [0,1,5] ?_;refine .loop (fun kq ρ H=>∃ (x3:Int),ρ=[(0,(.fz 3 (p0.map Es))),(1,(AN p1)),(5,(AB x3))]∧H=[]∧FN k p0 p1 kq x3=some r) k ⟨(0:Int),rfl,rfl,h⟩ ?_;rintro kq5 _ _ ⟨x3,rfl,rfl,h⟩
  cases kq5 with
  | zero=>rw[FN.eq_1]at h;cases h
  | succ kq5=>
  rw[FN.eq_2]at h;generalize hrec4:FN k p0 p1 kq5=rec4 at h;refine .a 8 ?_;rcases oi h with⟨c6,h⟩|⟨c6,h⟩
  ·refine .a 8 ?_;obtain⟨g7,h⟩:=AC h;refine .a 1 ?_;refine .c (.fldRp rfl rfl Tryz.underlying53 rfl X4 (.cast (.fldS (.fldS (.fld0 .here))) rfl)) ?_;refine .a 1 ?_;obtain⟨t8,et8,h⟩:=ob h;refine .callS [(AN ((AA p0 x3).f2))] (.tup [(.fz 5 (t8.1.map AM)),(AB t8.2)]) 20 rfl (by decide) Y2 rfl rfl rfl ⟨rfl,rfl,trivial⟩ (NI et8) ?_;refine .a 10 ?_;obtain⟨t9,et9,h⟩:=ob h;refine .callS [(.fz 5 (t8.1.map AM)),(AN p1)] (AD t9) 25 rfl (by decide) aG rfl rfl rfl ⟨rfl,rfl,rfl,rfl,trivial⟩ (Na et9) ?_;refine .a 1 ?_;rcases oi h with⟨c10,h⟩|⟨c10,h⟩
   ·refine .a 5 ?_;refine .nK [4] ?_;refine .rK [4] ?_;have hr:=Option.some.inj h;subst hr;exact⟨[(AB x3)],⟨rfl,rfl,trivial⟩,rfl⟩
   refine .a 6 ?_;refine .nK [0,1,5] ?_;exact⟨kq5,Nat.lt_succ_self _,(AG (x3+(1:Int))),rfl,rfl,by rw[hrec4];exact h⟩
  refine .a 1 ?_;refine .eK [] ?_;exact⟨rfl,rfl,h⟩
 rintro _ _ ⟨rfl,rfl,h⟩;rw[Pm.eq_1]at h;refine .a 3 ?_;refine .nK [4] ?_;refine .rK [4] ?_;cases h;exact⟨[(AB (-1:Int))],⟨rfl,rfl,trivial⟩,rfl⟩
def Pi (k:Nat):Option Bool:=
 some (true)
def Fz (k:Nat) (p0:AI):Nat→Int→Option Bool
 | 0,_=>none
 | j+1,x7=>
   if x7<(p0.f1.length:Int)then if 0≤x7∧x7<(p0.f1.length:Int)then if(256:Int)<((AA p0.f1 x7).length:Int)then some (false)
   else(Fz k p0 j) (AG (x7+(1:Int)))
   else none
   else Pi k
def Zz (k:Nat) (p0:AI):Option Bool:=
 Option.bind (α:=Bool) (if(20:Int)<(p0.f1.length:Int)then some (true)
 else some (decide ((30:Int)<(p0.f2.length:Int)))) fun b3=>
 if b3=true then some (false)
 else Fz k p0 k (0:Int)
theorem Up {k:Nat} {p0:AI} {r:Bool} (h:Zz k p0=some r):AY Tryz.prog 18 [(Ak p0)] (AD r):=by
 rw[Zz.eq_1]at h;refine AY.intro (res:=[.tmp 2]) Tryz.func18 rfl rfl rfl (Nat.le_of_ble_eq_true rfl) ?_;refine .sr ?_;refine .box rfl 1 rfl (by decide) rfl rfl rfl fun n2=>?_;refine .a 4 ?_;obtain⟨b3,q4,h⟩:=ob h;refine .regM [(1,(.ptr n2 0)),(13,(AD b3))] [(n2,(.mem (Ak p0)))] ?_ ?_
 ·refine .a 5 ?_;rcases oi q4 with⟨c5,q4⟩|⟨c5,q4⟩
  ·refine .a 5 ?_;cases q4;refine .nilE ⟨rfl,rfl⟩ ?_ ?_
   ·exact⟨rfl,rfl,trivial⟩
   exact(.refl _)
  refine .a 5 ?_;cases q4;refine .nilE ⟨rfl,rfl⟩ ?_ ?_
  ·exact⟨rfl,rfl,trivial⟩
  exact(.refl _)
 rcases oi h with⟨c6,h⟩|⟨c6,h⟩
 ·refine .a 4 ?_;refine .nS [2] [] ?_;refine .rK [2] ?_;have hr:=Option.some.inj h;subst hr;exact⟨[(AD false)],⟨rfl,rfl,trivial⟩,rfl⟩
 refine .a 1 ?_;refine .sK [1] ?_;refine .seq_mid (fun ρ H=>ρ=[]∧H=[]∧Pi k=some r) ?_ ?_
 ·refine .a 5 ?_;refine .wK [1,3] ?_;refine .loop (fun kq ρ H=>∃ (x7:Int),ρ=[(1,(.ptr n2 0)),(3,(AB x7))]∧H=[(n2,(.mem (Ak p0)))]∧Fz k p0 kq x7=some r) k ⟨(0:Int),rfl,rfl,h⟩ ?_;rintro kq9 _ _ ⟨x7,rfl,rfl,h⟩
  cases kq9 with
  | zero=>rw[Fz.eq_1]at h;cases h
  | succ kq9=>
  rw[Fz.eq_2]at h;generalize hrec8:Fz k p0 kq9=rec8 at h;refine .a 9 ?_;rcases oi h with⟨c10,h⟩|⟨c10,h⟩
  ·refine .a 9 ?_;obtain⟨g11,h⟩:=AC h;refine .a 5 ?_;rcases oi h with⟨c12,h⟩|⟨c12,h⟩
   ·refine .a 4 ?_;refine .nS [2] [] ?_;refine .rK [2] ?_;have hr:=Option.some.inj h;subst hr;exact⟨[(AD false)],⟨rfl,rfl,trivial⟩,rfl⟩
   refine .a 6 ?_;refine .nK [1,3] ?_;exact⟨kq9,Nat.lt_succ_self _,(AG (x7+(1:Int))),rfl,rfl,by rw[hrec8];exact h⟩
  refine .a 1 ?_;refine .eH [] (H':=[]) (.nil _) ?_;exact⟨rfl,rfl,h⟩
 rintro _ _ ⟨rfl,rfl,h⟩;rw[Pi.eq_1]at h;refine .a 3 ?_;refine .nK [2] ?_;refine .rK [2] ?_;have hr:=Option.some.inj h;subst hr;exact⟨[(AD true)],⟨rfl,rfl,trivial⟩,rfl⟩
def Wq (k:Nat) (p0:AI) (p1:Int) (p2:Int):Option Int:=
 Option.bind (α:=Bool) (if(p0.f1.length:Int)≤p1 then some (true)
 else if 0≤p1∧p1<(p0.f1.length:Int)then if 0≤p2∧p2<((AA p0.f1 p1).length:Int)then some (decide ((AA (AA p0.f1 p1) p2)<(0:Int)))
 else none
 else none) fun b5=>
 if b5=true then some ((p0.f1.length:Int))
 else if 0≤p1∧p1<(p0.f1.length:Int)then if 0≤p2∧p2<((AA p0.f1 p1).length:Int)then some ((AA (AA p0.f1 p1) p2))
 else none
 else none
theorem HD {k:Nat} {p0:AI} {p1:Int} {p2:Int} {r:Int} (h:Wq k p0 p1 p2=some r):AY Tryz.prog 48 [(Ak p0),(AB p1),(AB p2)] (AB r):=by
 rw[Wq.eq_1]at h;refine AY.intro (res:=[.tmp 6]) Tryz.func48 rfl rfl rfl (Nat.le_of_ble_eq_true rfl) ?_;refine .sr ?_;refine .box rfl 3 rfl (by decide) rfl rfl rfl fun n4=>?_;refine .a 4 ?_;obtain⟨b5,q6,h⟩:=ob h;refine .regM [(1,(AB p1)),(2,(AB p2)),(3,(.ptr n4 0)),(22,(AD b5))] [(n4,(.mem (Ak p0)))] ?_ ?_
 ·refine .a 6 ?_;rcases oi q6 with⟨c7,q6⟩|⟨c7,q6⟩
  ·refine .a 10 ?_;cases q6;refine .nilE ⟨rfl,rfl⟩ ?_ ?_
   ·exact⟨rfl,rfl,rfl,rfl,trivial⟩
   exact(.refl _)
  refine .a 3 ?_;obtain⟨g8,q6⟩:=AC q6;refine .a 3 ?_;obtain⟨g9,q6⟩:=AC q6;refine .a 4 ?_;cases q6;refine .nilE ⟨rfl,rfl⟩ ?_ ?_
  ·exact⟨rfl,rfl,rfl,rfl,trivial⟩
  exact(.refl _)
 rcases oi h with⟨c10,h⟩|⟨c10,h⟩
 ·refine .a 7 ?_;refine .nS [6] [] ?_;refine .rK [6] ?_;cases h;exact⟨[(AB (p0.f1.length:Int))],⟨rfl,rfl,trivial⟩,rfl⟩
 refine .a 7 ?_;obtain⟨g11,h⟩:=AC h;refine .a 3 ?_;obtain⟨g12,h⟩:=AC h;refine .a 3 ?_;refine .nS [6] [] ?_;refine .rK [6] ?_;cases h;exact⟨[(AB (AA (AA p0.f1 p1) p2))],⟨rfl,rfl,trivial⟩,rfl⟩
def PX (k:Nat) (x6:(List (List Bool))):Option (List (List Bool)):=
 some (x6)
def ME (k:Nat) (rec11:((List (List Bool))→Int→Option (List (List Bool)))) (x10:Int) (x14:(List (List Bool))):Option (List (List Bool)):=
 rec11 x14 (AG (x10+(1:Int)))
def Ml (k:Nat) (rec19:((List (List Bool))→Int→Option (List (List Bool)))) (x18:Int) (x22:(List (List Bool))):Option (List (List Bool)):=
 rec19 x22 (AG (x18+(1:Int)))
def J9 (k:Nat) (rec27:((List (List Bool))→Int→Option (List (List Bool)))) (x26:Int) (x30:(List (List Bool))):Option (List (List Bool)):=
 rec27 x30 (AG (x26+(1:Int)))
def FD (k:Nat) (rec27:((List (List Bool))→Int→Option (List (List Bool)))) (p0:AI) (x18:Int) (x26:Int):Nat→(List (List Bool))→Int→Option (List (List Bool))
 | 0,_,_=>none
 | j+1,x32,x34=>
   Option.bind (α:=Bool) (if 0≤(0:Int)∧(0:Int)<(p0.f1.length:Int)then if x34<((AA p0.f1 (0:Int)).length:Int)then if 0≤x18∧x18<(x32.length:Int)then if 0≤x26∧x26<((AA x32 x18).length:Int)then some (!(AA (AA x32 x18) x26))
   else none
   else none
   else some (false)
   else none) fun b37=>
   if b37=true then if 0≤x18∧x18<(x32.length:Int)then(Wq k p0 x18 x34).bind fun t45=>
   if 0≤t45∧t45<(x32.length:Int)then(Wq k p0 x26 x34).bind fun t47=>
   if 0≤t47∧t47<((AA x32 t45).length:Int)then if 0≤x26∧x26<((AA x32 x18).length:Int)then(FD k rec27 p0 x18 x26 j) (AU x32 x18 (AU (AA x32 x18) x26 (AA (AA x32 t45) t47))) (AG (x34+(1:Int)))
   else none
   else none
   else none
   else none
   else J9 k rec27 x26 x32
def FO (k:Nat) (rec19:((List (List Bool))→Int→Option (List (List Bool)))) (p0:AI) (x18:Int):Nat→(List (List Bool))→Int→Option (List (List Bool))
 | 0,_,_=>none
 | j+1,x24,x26=>
   if x26<(AG ((p0.f1.length:Int)+(1:Int)))then FD k (FO k rec19 p0 x18 j) p0 x18 x26 k x24 (0:Int)
   else Ml k rec19 x18 x24
def EK (k:Nat) (rec11:((List (List Bool))→Int→Option (List (List Bool)))) (p0:AI) (x10:Int):Nat→(List (List Bool))→Int→Option (List (List Bool))
 | 0,_,_=>none
 | j+1,x16,x18=>
   if x18<(AG ((p0.f1.length:Int)+(1:Int)))then FO k (EK k rec11 p0 x10 j) p0 x18 k x16 (0:Int)
   else ME k rec11 x10 x16
def D5 (k:Nat) (p0:AI):Nat→(List (List Bool))→Int→Option (List (List Bool))
 | 0,_,_=>none
 | j+1,x8,x10=>
   if x10<(AG ((p0.f1.length:Int)+(1:Int)))then EK k (D5 k p0 j) p0 x10 k x8 (0:Int)
   else PX k x8
def L5 (k:Nat) (p0:AI) (x4:(List (List Bool))):Option (List (List Bool)):=
 D5 k p0 k x4 (0:Int)
def MQ (k:Nat) (rec54:((List (List Bool))→Int→Option (List (List Bool)))) (x53:Int) (x58:(List (List Bool))):Option (List (List Bool)):=
 rec54 x58 (AG (x53+(1:Int)))
def Iw (k:Nat) (rec54:((List (List Bool))→Int→Option (List (List Bool)))) (x51:(List (List Bool))) (x53:Int) (x62:(List Bool)):Option (List (List Bool)):=
 if(x51++[x62]).length*24≤140737488355328 then MQ k rec54 x53 (x51++[x62])
 else none
def C1 (k:Nat) (rec54:((List (List Bool))→Int→Option (List (List Bool)))) (p0:AI) (x51:(List (List Bool))) (x53:Int):Nat→(List Bool)→Int→Option (List (List Bool))
 | 0,_,_=>none
 | j+1,x66,x67=>
   if x67<(AG ((p0.f1.length:Int)+(1:Int)))then(WE k p0 x53).bind fun t71=>
   (WE k p0 x67).bind fun t72=>
   if 0≤x67∧x67<(x66.length:Int)then(C1 k rec54 p0 x51 x53 j) (AU x66 x67 (decide (t71≠t72))) (AG (x67+(1:Int)))
   else none
   else Iw k rec54 x51 x53 x66
def Cr (k:Nat) (p0:AI):Nat→(List (List Bool))→Int→Option (List (List Bool))
 | 0,_,_=>none
 | j+1,x51,x53=>
   if x53<(AG ((p0.f1.length:Int)+(1:Int)))then if 0≤(AG ((p0.f1.length:Int)+(1:Int)))∧(AG ((p0.f1.length:Int)+(1:Int)))*(1:Int)≤140737488355328∧(AG ((p0.f1.length:Int)+(1:Int)))≤9223372036854775807 then C1 k (Cr k p0 j) p0 x51 x53 k (List.replicate (AG ((p0.f1.length:Int)+(1:Int))).toNat false) (0:Int)
   else none
   else L5 k p0 x51
def ao (k:Nat) (p0:AI):Option (List (List Bool)):=
 Cr k p0 k ([]:List (List Bool)) (0:Int)
theorem UG {k:Nat} {p0:AI} {r:(List (List Bool))} (h:ao k p0=some r):AY Tryz.prog 47 [(Ak p0)] (cx r):=by
 rw[ao.eq_1]at h;refine AY.intro (res:=[.tmp 2]) Tryz.func47 rfl rfl rfl (Nat.le_of_ble_eq_true rfl) ?_;refine .sr ?_;refine .box rfl 1 rfl (by decide) rfl rfl rfl fun n2=>?_;refine .a 13 ?_;refine .nK [1,3,4] ?_;refine .seq_mid (fun ρ H=>∃ (n3:Nat) (ns5:(Nat→Nat)) (x4:(List (List Bool))),ρ=[(1,(.ptr n2 0)),(3,(AB (AG ((p0.f1.length:Int)+(1:Int))))),(4,(.own n3 0 x4.length))]∧H=((n2,(.mem (Ak p0)))::(BM n3 (Av ns5 0 x4))::(Bk 1 AD ns5 0 x4++[]))∧L5 k p0 x4=some r) ?_ ?_
 ·refine .a 5 ?_;refine .nilOwn 4 1 rfl fun n74=>?_;refine .heq (H':=((BM n74 (Av (fun _=>0) 0 ([]:List (List Bool))))::(n2,(.mem (Ak p0)))::(Bk 1 AD (fun _=>0) 0 ([]:List (List Bool))++[]))) rfl ?_;refine .wH [1,3,4,5] (H':=((n2,(.mem (Ak p0)))::(BM n74 (Av (fun _=>0) 0 ([]:List (List Bool))))::(Bk 1 AD (fun _=>0) 0 ([]:List (List Bool))++[]))) (.cons 1 rfl (.cons 0 rfl (.refl _))) ?_;refine .loop (fun kq ρ H=>∃ (n50:Nat) (ns52:(Nat→Nat)) (x51:(List (List Bool))) (x53:Int),ρ=[(1,(.ptr n2 0)),(3,(AB (AG ((p0.f1.length:Int)+(1:Int))))),(4,(.own n50 0 x51.length)),(5,(AB x53))]∧H=((n2,(.mem (Ak p0)))::(BM n50 (Av ns52 0 x51))::(Bk 1 AD ns52 0 x51++[]))∧Cr k p0 kq x51 x53=some r) k ⟨n74,(fun _=>0),([]:List (List Bool)),(0:Int),rfl,rfl,h⟩ ?_;rintro kq55 _ _ ⟨n50,ns52,x51,x53,rfl,rfl,h⟩
  cases kq55 with
  | zero=>rw[Cr.eq_1]at h;cases h
  | succ kq55=>
  rw[Cr.eq_2]at h;generalize hrec54:Cr k p0 kq55=rec54 at h;refine .a 7 ?_;rcases oi h with⟨c56,h⟩|⟨c56,h⟩
  ·refine .a 1 ?_;refine .sK [1,3,4,5] ?_;refine .seq_mid (fun ρ H=>∃ (n57:Nat) (ns59:(Nat→Nat)) (x58:(List (List Bool))),ρ=[(1,(.ptr n2 0)),(3,(AB (AG ((p0.f1.length:Int)+(1:Int))))),(4,(.own n57 0 x58.length)),(5,(AB x53))]∧H=((n2,(.mem (Ak p0)))::(BM n57 (Av ns59 0 x58))::(Bk 1 AD ns59 0 x58++[]))∧MQ k rec54 x53 x58=some r) ?_ ?_
   ·refine .a 4 ?_;obtain⟨g61,h⟩:=AC h;refine .makeL (f:=AD) false rfl 22 rfl (by decide) rfl rfl rfl Tryz.underlying95 Bw KI G3 D9 rfl g61 fun n60=>?_;refine .a 1 ?_;refine .nH [1,3,4,5,6] (H':=((n2,(.mem (Ak p0)))::(BM n50 (Av ns52 0 x51))::(Z9 n60 (List.replicate (AG ((p0.f1.length:Int)+(1:Int))).toNat false))::(Bk 1 AD ns52 0 x51++[]))) (.cons 1 rfl (.cons 1 rfl (.cons 0 rfl (.refl _)))) ?_;refine .seq_mid (fun ρ H=>∃ (x62:(List Bool)),ρ=[(1,(.ptr n2 0)),(3,(AB (AG ((p0.f1.length:Int)+(1:Int))))),(4,(.own n50 0 x51.length)),(5,(AB x53)),(6,(.own n60 0 x62.length))]∧H=((n2,(.mem (Ak p0)))::(BM n50 (Av ns52 0 x51))::(Z9 n60 x62)::(Bk 1 AD ns52 0 x51++[]))∧Iw k rec54 x51 x53 x62=some r) ?_ ?_
    ·refine .a 5 ?_;refine .wK [1,3,4,5,6,7] ?_;refine .loop (fun kq ρ H=>∃ (x66:(List Bool)) (x67:Int),ρ=[(1,(.ptr n2 0)),(3,(AB (AG ((p0.f1.length:Int)+(1:Int))))),(4,(.own n50 0 x51.length)),(5,(AB x53)),(6,(.own n60 0 x66.length)),(7,(AB x67))]∧H=((n2,(.mem (Ak p0)))::(BM n50 (Av ns52 0 x51))::(Z9 n60 x66)::(Bk 1 AD ns52 0 x51++[]))∧C1 k rec54 p0 x51 x53 kq x66 x67=some r) k ⟨(List.replicate (AG ((p0.f1.length:Int)+(1:Int))).toNat false),(0:Int),rfl,rfl,h⟩ ?_;rintro kq69 _ _ ⟨x66,x67,rfl,rfl,h⟩
     cases kq69 with
     | zero=>rw[C1.eq_1]at h;cases h
     | succ kq69=>
     rw[C1.eq_2]at h;generalize hrec68:C1 k rec54 p0 x51 x53 kq69=rec68 at h;refine .a 7 ?_;rcases oi h with⟨c70,h⟩|⟨c70,h⟩
     ·refine .a 4 ?_;obtain⟨t71,et71,h⟩:=ob h;obtain⟨t72,et72,h⟩:=ob h;obtain⟨g73,h⟩:=AC h;refine .regAnyL rfl rfl (by rfl) (by decide+kernel) (by decide+kernel) [(.own n60 0 x66.length),(AB x67),(Ak p0),(AB x53),(AB t71),(Ak p0),(AB x67),(AB t72),(AD (decide (t71≠t72))),(.ptr n60 (x67.toNat*1+0))] [(1,(.ptr n2 0)),(3,(AB (AG ((p0.f1.length:Int)+(1:Int))))),(4,(.own n50 0 x51.length)),(5,(AB x53)),(6,(.own n60 0 x66.length)),(7,(AB x67))] ⟨rfl,rfl,rfl,rfl,rfl,rfl,trivial⟩ rfl ?_ [(1,(.ptr n2 0)),(3,(AB (AG ((p0.f1.length:Int)+(1:Int))))),(4,(.own n50 0 x51.length)),(5,(AB x53)),(6,(.own n60 0 x66.length)),(7,(AB x67)),(36,(AD (decide (t71≠t72)))),(37,(.ptr n60 (x67.toNat*1+0)))] ⟨rfl,rfl,rfl,rfl,rfl,rfl,rfl,rfl,trivial⟩ ?_
      ·refine⟨?_,?_,?_,?_,?_,?_,?_,?_,?_,?_,trivial⟩
       ·refine .a 1 ?_;exact .q 28
       ·refine .a 1 ?_;exact .q 29
       ·refine .a 1 ?_;exact .q 30
       ·refine .a 1 ?_;exact .q 31
       ·refine .wK [30,31] ?_;refine .callS [(Ak p0),(AB x53)] (AB t71) 32 rfl (by decide) Nv rfl rfl rfl ⟨rfl,rfl,rfl,rfl,trivial⟩ (DA et71) ?_;exact .q 32
       ·refine .a 1 ?_;exact .q 33
       ·refine .a 1 ?_;exact .q 34
       ·refine .wK [33,34] ?_;refine .callS [(Ak p0),(AB x67)] (AB t72) 35 rfl (by decide) Nv rfl rfl rfl ⟨rfl,rfl,rfl,rfl,trivial⟩ (DA et72) ?_;exact .q 35
       ·refine .a 1 ?_;exact .q 36
       refine .a 1 ?_;exact .q 37
      refine .store 2 rfl rfl rfl rfl rfl rfl (.cast (.lidx x67 (decide (t71≠t72)) g73.1 g73.2 .here) (by omega)) rfl rfl Bw rfl ?_;refine .coe 6 (y':=(BL n60 (AU x66 x67 (decide (t71≠t72))).length)) rfl (fun _ _ h=>Ad h) ?_;refine .a 5 ?_;refine .nK [1,3,4,5,6,7] ?_;exact⟨kq69,Nat.lt_succ_self _,(AU x66 x67 (decide (t71≠t72))),(AG (x67+(1:Int))),rfl,rfl,by rw[hrec68];exact h⟩
     refine .a 1 ?_;refine .eK [1,3,4,5,6] ?_;exact⟨x66,rfl,rfl,h⟩
    rintro _ _ ⟨x62,rfl,rfl,h⟩;rw[Iw.eq_1]at h;refine .a 3 ?_;refine .lit (Z:=(.fl (.slice none 0 0))) (xs:=[(.own n60 0 x62.length)]) (qs:=[(0,(.own n60 0 x62.length))]) rfl 40 rfl (by decide) rfl ⟨rfl,rfl,rfl,trivial⟩ Tryz.underlying93 IW VA XI rfl (by decide) (An (z:=1) [(.own n60 0 x62.length)] rfl ⟨⟨rfl,rfl⟩,trivial⟩) rfl fun n63=>?_;obtain⟨g65,h⟩:=AC h;refine .appendF (ns:=ns52) (x:=x51) (m:=n60) (r:=x62) 2 0 41 rfl (by decide) rfl rfl rfl rfl rfl rfl Tryz.underlying93 Tryz.underlying93 IW ZL VA rfl g65 (by decide) fun n64=>?_;refine .wH [1,3,5,41] (H':=((n2,(.mem (Ak p0)))::(BM n64 (Av (KD ns52 x51.length n60) 0 (x51++[x62])))::(Bk 1 AD (KD ns52 x51.length n60) 0 (x51++[x62])++[]))) (.cons 1 rfl (.cons 1 rfl ((XU 1 AD ns52 x51 n60 x62 _).trans (.cons 1 rfl (.drop (.refl _)))))) ?_;refine .a 1 ?_;refine .nK [1,3,4,5] ?_;exact⟨n64,(KD ns52 x51.length n60),(x51++[x62]),rfl,rfl,h⟩
   rintro _ _ ⟨n57,ns59,x58,rfl,rfl,h⟩;rw[MQ.eq_1]at h;refine .a 4 ?_;refine .nK [1,3,4,5] ?_;exact⟨kq55,Nat.lt_succ_self _,n57,ns59,x58,(AG (x53+(1:Int))),rfl,rfl,by rw[hrec54];exact h⟩
  refine .a 1 ?_;refine .eK [1,3,4] ?_;exact⟨n50,ns52,x51,rfl,rfl,h⟩
 rintro _ _ ⟨n3,ns5,x4,rfl,rfl,h⟩;rw[L5.eq_1]at h;refine .seq_mid (fun ρ H=>∃ (ns7:(Nat→Nat)) (x6:(List (List Bool))),ρ=[(4,(.own n3 0 x6.length))]∧H=((BM n3 (Av ns7 0 x6))::(Bk 1 AD ns7 0 x6++[]))∧PX k x6=some r) ?_ ?_
 ·refine .a 5 ?_;refine .wK [1,3,4,8] ?_;refine .loop (fun kq ρ H=>∃ (ns9:(Nat→Nat)) (x8:(List (List Bool))) (x10:Int),ρ=[(1,(.ptr n2 0)),(3,(AB (AG ((p0.f1.length:Int)+(1:Int))))),(4,(.own n3 0 x8.length)),(8,(AB x10))]∧H=((n2,(.mem (Ak p0)))::(BM n3 (Av ns9 0 x8))::(Bk 1 AD ns9 0 x8++[]))∧D5 k p0 kq x8 x10=some r) k ⟨ns5,x4,(0:Int),rfl,rfl,h⟩ ?_;rintro kq12 _ _ ⟨ns9,x8,x10,rfl,rfl,h⟩
  cases kq12 with
  | zero=>rw[D5.eq_1]at h;cases h
  | succ kq12=>
  rw[D5.eq_2]at h;generalize hrec11:D5 k p0 kq12=rec11 at h;refine .a 7 ?_;rcases oi h with⟨c13,h⟩|⟨c13,h⟩
  ·refine .a 1 ?_;refine .sK [1,3,4,8] ?_;refine .seq_mid (fun ρ H=>∃ (ns15:(Nat→Nat)) (x14:(List (List Bool))),ρ=[(1,(.ptr n2 0)),(3,(AB (AG ((p0.f1.length:Int)+(1:Int))))),(4,(.own n3 0 x14.length)),(8,(AB x10))]∧H=((n2,(.mem (Ak p0)))::(BM n3 (Av ns15 0 x14))::(Bk 1 AD ns15 0 x14++[]))∧ME k rec11 x10 x14=some r) ?_ ?_
   ·refine .a 6 ?_;refine .wK [1,3,4,8,9] ?_;refine .loop (fun kq ρ H=>∃ (ns17:(Nat→Nat)) (x16:(List (List Bool))) (x18:Int),ρ=[(1,(.ptr n2 0)),(3,(AB (AG ((p0.f1.length:Int)+(1:Int))))),(4,(.own n3 0 x16.length)),(8,(AB x10)),(9,(AB x18))]∧H=((n2,(.mem (Ak p0)))::(BM n3 (Av ns17 0 x16))::(Bk 1 AD ns17 0 x16++[]))∧EK k rec11 p0 x10 kq x16 x18=some r) k ⟨ns9,x8,(0:Int),rfl,rfl,h⟩ ?_;rintro kq20 _ _ ⟨ns17,x16,x18,rfl,rfl,h⟩
    cases kq20 with
    | zero=>rw[EK.eq_1]at h;cases h
    | succ kq20=>
    rw[EK.eq_2]at h;generalize hrec19:EK k rec11 p0 x10 kq20=rec19 at h;refine .a 7 ?_;rcases oi h with⟨c21,h⟩|⟨c21,h⟩
    ·refine .a 1 ?_;refine .sK [1,3,4,8,9] ?_;refine .seq_mid (fun ρ H=>∃ (ns23:(Nat→Nat)) (x22:(List (List Bool))),ρ=[(1,(.ptr n2 0)),(3,(AB (AG ((p0.f1.length:Int)+(1:Int))))),(4,(.own n3 0 x22.length)),(8,(AB x10)),(9,(AB x18))]∧H=((n2,(.mem (Ak p0)))::(BM n3 (Av ns23 0 x22))::(Bk 1 AD ns23 0 x22++[]))∧Ml k rec19 x18 x22=some r) ?_ ?_
     ·refine .a 6 ?_;refine .wK [1,3,4,8,9,10] ?_;refine .loop (fun kq ρ H=>∃ (ns25:(Nat→Nat)) (x24:(List (List Bool))) (x26:Int),ρ=[(1,(.ptr n2 0)),(3,(AB (AG ((p0.f1.length:Int)+(1:Int))))),(4,(.own n3 0 x24.length)),(8,(AB x10)),(9,(AB x18)),(10,(AB x26))]∧H=((n2,(.mem (Ak p0)))::(BM n3 (Av ns25 0 x24))::(Bk 1 AD ns25 0 x24++[]))∧FO k rec19 p0 x18 kq x24 x26=some r) k ⟨ns17,x16,(0:Int),rfl,rfl,h⟩ ?_;rintro kq28 _ _ ⟨ns25,x24,x26,rfl,rfl,h⟩
      cases kq28 with
      | zero=>rw[FO.eq_1]at h;cases h
      | succ kq28=>
      rw[FO.eq_2]at h;generalize hrec27:FO k rec19 p0 x18 kq28=rec27 at h;refine .a 7 ?_;rcases oi h with⟨c29,h⟩|⟨c29,h⟩
      ·refine .a 1 ?_;refine .sK [1,3,4,8,9,10] ?_;refine .seq_mid (fun ρ H=>∃ (ns31:(Nat→Nat)) (x30:(List (List Bool))),ρ=[(1,(.ptr n2 0)),(3,(AB (AG ((p0.f1.length:Int)+(1:Int))))),(4,(.own n3 0 x30.length)),(8,(AB x10)),(9,(AB x18)),(10,(AB x26))]∧H=((n2,(.mem (Ak p0)))::(BM n3 (Av ns31 0 x30))::(Bk 1 AD ns31 0 x30++[]))∧J9 k rec27 x26 x30=some r) ?_ ?_
       ·refine .a 6 ?_;refine .wK [1,3,4,8,9,10,11] ?_;refine .loop (fun kq ρ H=>∃ (ns33:(Nat→Nat)) (x32:(List (List Bool))) (x34:Int),ρ=[(1,(.ptr n2 0)),(3,(AB (AG ((p0.f1.length:Int)+(1:Int))))),(4,(.own n3 0 x32.length)),(8,(AB x10)),(9,(AB x18)),(10,(AB x26)),(11,(AB x34))]∧H=((n2,(.mem (Ak p0)))::(BM n3 (Av ns33 0 x32))::(Bk 1 AD ns33 0 x32++[]))∧FD k rec27 p0 x18 x26 kq x32 x34=some r) k ⟨ns25,x24,(0:Int),rfl,rfl,h⟩ ?_;rintro kq36 _ _ ⟨ns33,x32,x34,rfl,rfl,h⟩
        cases kq36 with
        | zero=>rw[FD.eq_1]at h;cases h
        | succ kq36=>
        rw[FD.eq_2]at h;generalize hrec35:FD k rec27 p0 x18 x26 kq36=rec35 at h;refine .a 2 ?_;obtain⟨b37,q38,h⟩:=ob h;refine .regM [(1,(.ptr n2 0)),(3,(AB (AG ((p0.f1.length:Int)+(1:Int))))),(4,(.own n3 0 x32.length)),(8,(AB x10)),(9,(AB x18)),(10,(AB x26)),(11,(AB x34)),(73,(AD b37))] ((n2,(.mem (Ak p0)))::(BM n3 (Av ns33 0 x32))::(Bk 1 AD ns33 0 x32++[])) ?_ ?_
        ·refine .a 3 ?_;obtain⟨g39,q38⟩:=AC q38;refine .a 5 ?_;rcases oi q38 with⟨c40,q38⟩|⟨c40,q38⟩
         ·refine .a 2 ?_;obtain⟨g41,q38⟩:=AC q38;refine .cG (x:=.ptr n3 (x18.toNat*1+0)) rfl rfl (bD (decide_eq_true c40)) (.idxF 1 rfl rfl rfl rfl g41 Tryz.underlying93 IW) ?_;refine .cG rfl rfl (bD (decide_eq_true c40)) (.load 1 rfl rfl rfl (.cast (.ownF g41) rfl) UZ IW) ?_;refine .cG rfl rfl (bD (decide_eq_true c40)) (.move rfl rfl) ?_;obtain⟨g42,q38⟩:=AC q38;refine .cG rfl rfl (bD (decide_eq_true c40)) (.idxO (f:=AD) (l:=AA x32 x18) (x18.toNat+2) rfl rfl rfl (DK (DK (Kv g41))) g42 Tryz.underlying95 Bw) ?_;refine .cG rfl rfl (bD (decide_eq_true c40)) (.load (x18.toNat+2) rfl rfl (DK (DK (Kv g41))) (.cast (.lidx x26 g42.1 g42.2 .here) rfl) TF Bw) ?_;refine .a 2 ?_;cases q38;refine .nilE ⟨rfl,rfl⟩ ?_ ?_
          ·exact⟨rfl,rfl,rfl,rfl,rfl,rfl,rfl,rfl,trivial⟩
          exact(.refl _)
         refine .a 9 ?_;cases q38;refine .nilE ⟨rfl,rfl⟩ ?_ ?_
         ·exact⟨rfl,rfl,rfl,rfl,rfl,rfl,rfl,rfl,trivial⟩
         exact(.refl _)
        rcases oi h with⟨c43,h⟩|⟨c43,h⟩
        ·refine .a 4 ?_;obtain⟨g44,h⟩:=AC h;obtain⟨t45,et45,h⟩:=ob h;obtain⟨g46,h⟩:=AC h;obtain⟨t47,et47,h⟩:=ob h;obtain⟨g48,h⟩:=AC h;obtain⟨g49,h⟩:=AC h;refine .regAnyL rfl rfl (by rfl) (by decide+kernel) (by decide+kernel) [(.own n3 0 x32.length),(AB x18),(.ptr n3 (x18.toNat*1+0)),(BL (ns33 x18.toNat) (AA x32 x18).length),(AB x26),(.own n3 0 x32.length),(Ak p0),(AB x18),(AB x34),(AB t45),(.ptr n3 (t45.toNat*1+0)),(BL (ns33 t45.toNat) (AA x32 t45).length),(Ak p0),(AB x26),(AB x34),(AB t47),(.ptr (ns33 t45.toNat) (t47.toNat*1+0)),(AD (AA (AA x32 t45) t47)),(.ptr (ns33 x18.toNat) (x26.toNat*1+0))] [(1,(.ptr n2 0)),(3,(AB (AG ((p0.f1.length:Int)+(1:Int))))),(4,(.own n3 0 x32.length)),(8,(AB x10)),(9,(AB x18)),(10,(AB x26)),(11,(AB x34))] ⟨rfl,rfl,rfl,rfl,rfl,rfl,rfl,trivial⟩ rfl ?_ [(1,(.ptr n2 0)),(3,(AB (AG ((p0.f1.length:Int)+(1:Int))))),(4,(.own n3 0 x32.length)),(8,(AB x10)),(9,(AB x18)),(10,(AB x26)),(11,(AB x34)),(93,(AD (AA (AA x32 t45) t47))),(94,(.ptr (ns33 x18.toNat) (x26.toNat*1+0)))] ⟨rfl,rfl,rfl,rfl,rfl,rfl,rfl,rfl,rfl,trivial⟩ ?_
         ·refine⟨?_,?_,?_,?_,?_,?_,?_,?_,?_,?_,?_,?_,?_,?_,?_,?_,?_,?_,?_,trivial⟩
          ·refine .a 1 ?_;exact .q 76
          ·refine .a 1 ?_;exact .q 77
          ·refine .wK [76,77] ?_;refine .c (x:=.ptr n3 (x18.toNat*1+0)) (.idxF 1 rfl rfl rfl rfl g44 Tryz.underlying93 IW) ?_;exact .q 78
          ·refine .wK [78] ?_;refine .c (.load 1 rfl rfl rfl (.cast (.ownF g44) rfl) UZ IW) ?_;exact .q 79
          ·refine .a 1 ?_;exact .q 80
          ·refine .a 1 ?_;exact .q 81
          ·refine .a 1 ?_;exact .q 82
          ·refine .a 1 ?_;exact .q 83
          ·refine .a 1 ?_;exact .q 84
          ·refine .wK [82,83,84] ?_;refine .callS [(Ak p0),(AB x18),(AB x34)] (AB t45) 85 rfl (by decide) V6 rfl rfl rfl ⟨rfl,rfl,rfl,rfl,rfl,rfl,trivial⟩ (HD et45) ?_;exact .q 85
          ·refine .wK [81,85] ?_;refine .c (x:=.ptr n3 (t45.toNat*1+0)) (.idxF 1 rfl rfl rfl rfl g46 Tryz.underlying93 IW) ?_;exact .q 86
          ·refine .wK [86] ?_;refine .c (.load 1 rfl rfl rfl (.cast (.ownF g46) rfl) UZ IW) ?_;exact .q 87
          ·refine .a 1 ?_;exact .q 88
          ·refine .a 1 ?_;exact .q 89
          ·refine .a 1 ?_;exact .q 90
          ·refine .wK [88,89,90] ?_;refine .callS [(Ak p0),(AB x26),(AB x34)] (AB t47) 91 rfl (by decide) V6 rfl rfl rfl ⟨rfl,rfl,rfl,rfl,rfl,rfl,trivial⟩ (HD et47) ?_;exact .q 91
          ·refine .wK [87,91] ?_;refine .c (.idxO (f:=AD) (l:=AA x32 t45) (t45.toNat+2) rfl rfl rfl (DK (DK (Kv g46))) g48 Tryz.underlying95 Bw) ?_;exact .q 92
          ·refine .wK [92] ?_;refine .c (.load (t45.toNat+2) rfl rfl (DK (DK (Kv g46))) (.cast (.lidx t47 g48.1 g48.2 .here) rfl) TF Bw) ?_;exact .q 93
          refine .wK [79,80] ?_;refine .c (.idxO (f:=AD) (l:=AA x32 x18) (x18.toNat+2) rfl rfl rfl (DK (DK (Kv g44))) g49 Tryz.underlying95 Bw) ?_;exact .q 94
         refine .store (x18.toNat+2) rfl rfl rfl rfl rfl (DK (DK (Kv g44))) (.cast (.lidx x26 (AA (AA x32 t45) t47) g49.1 g49.2 .here) rfl) rfl rfl Bw rfl ?_;refine .heq (H':=((n2,(.mem (Ak p0)))::(BM n3 (Av ns33 0 x32))::(Bk 1 AD ns33 0 (AU x32 x18 (AU (AA x32 x18) x26 (AA (AA x32 t45) t47)))++[]))) ((TU (TU (YU g44)))) ?_;refine .heq (H':=((n2,(.mem (Ak p0)))::(BM n3 (Av ns33 0 (AU x32 x18 (AU (AA x32 x18) x26 (AA (AA x32 t45) t47)))))::(Bk 1 AD ns33 0 (AU x32 x18 (AU (AA x32 x18) x26 (AA (AA x32 t45) t47)))++[]))) (by rw[XQ g44 (by simp[AU])]) ?_;refine .coe 4 (y':=(BL n3 (AU x32 x18 (AU (AA x32 x18) x26 (AA (AA x32 t45) t47))).length)) rfl (fun _ _ h=>Le (by simp[AU]) h) ?_;refine .a 5 ?_;refine .nK [1,3,4,8,9,10,11] ?_;exact⟨kq36,Nat.lt_succ_self _,ns33,(AU x32 x18 (AU (AA x32 x18) x26 (AA (AA x32 t45) t47))),(AG (x34+(1:Int))),rfl,rfl,by rw[hrec35];exact h⟩
        refine .a 1 ?_;refine .eK [1,3,4,8,9,10] ?_;exact⟨ns33,x32,rfl,rfl,h⟩
       rintro _ _ ⟨ns31,x30,rfl,rfl,h⟩;rw[J9.eq_1]at h;refine .a 4 ?_;refine .nK [1,3,4,8,9,10] ?_;exact⟨kq28,Nat.lt_succ_self _,ns31,x30,(AG (x26+(1:Int))),rfl,rfl,by rw[hrec27];exact h⟩
      refine .a 1 ?_;refine .eK [1,3,4,8,9] ?_;exact⟨ns25,x24,rfl,rfl,h⟩
     rintro _ _ ⟨ns23,x22,rfl,rfl,h⟩;rw[Ml.eq_1]at h;refine .a 4 ?_;refine .nK [1,3,4,8,9] ?_;exact⟨kq20,Nat.lt_succ_self _,ns23,x22,(AG (x18+(1:Int))),rfl,rfl,by rw[hrec19];exact h⟩
    refine .a 1 ?_;refine .eK [1,3,4,8] ?_;exact⟨ns17,x16,rfl,rfl,h⟩
   rintro _ _ ⟨ns15,x14,rfl,rfl,h⟩;rw[ME.eq_1]at h;refine .a 4 ?_;refine .nK [1,3,4,8] ?_;exact⟨kq12,Nat.lt_succ_self _,ns15,x14,(AG (x10+(1:Int))),rfl,rfl,by rw[hrec11];exact h⟩
  refine .a 1 ?_;refine .eH [4] (H':=((BM n3 (Av ns9 0 x8))::(Bk 1 AD ns9 0 x8++[]))) (.cons 1 rfl (.drop (.refl _))) ?_;exact⟨ns9,x8,rfl,rfl,h⟩
 rintro _ _ ⟨ns7,x6,rfl,rfl,h⟩;rw[PX.eq_1]at h;refine .a 4 ?_;refine .nK [2] ?_;refine .wH [2] (H':=((BM n3 (Av ns7 0 x6))::(Bk 1 AD ns7 0 x6++[]))) (.cons 0 rfl (.refl _)) ?_;refine .famFz0 ?_;refine .freezeS 0 [(2,(.fz 1 (x6.map G7)))] rfl ⟨Aj rfl,trivial⟩ ?_;refine .rK [2] ?_;have hr:=Option.some.inj h;subst hr;exact⟨[(.fz 1 (x6.map G7))],⟨rfl,rfl,trivial⟩,rfl⟩
def PO (k:Nat):Option Bool:=
 some (true)
def Mg (k:Nat) (rec5:(Int→Option Bool)) (x4:Int):Option Bool:=
 rec5 (AG (x4+(1:Int)))
def MJ (k:Nat) (rec5:(Int→Option Bool)) (p0:AI) (t3:(List (List Bool))) (x4:Int):Option Bool:=
 Option.bind (α:=Bool) (if 0≤x4∧x4<(t3.length:Int)then if 0≤(p0.f1.length:Int)∧(p0.f1.length:Int)<((AA t3 x4).length:Int)then if(!(AA (AA t3 x4) (p0.f1.length:Int)))=true then some (decide ((1:Int)<(p0.f1.length:Int)))
 else some (false)
 else none
 else none) fun b8=>
 if b8=true then some (false)
 else Mg k rec5 x4
def FI (k:Nat) (rec5:(Int→Option Bool)) (p0:AI) (t3:(List (List Bool))) (x4:Int):Nat→Int→Option Bool
 | 0,_=>none
 | j+1,x14=>
   if x14<x4 then if 0≤x4∧x4<(t3.length:Int)then if 0≤x14∧x14<((AA t3 x4).length:Int)then if(!(AA (AA t3 x4) x14))=true then some (false)
   else(FI k rec5 p0 t3 x4 j) (AG (x14+(1:Int)))
   else none
   else none
   else MJ k rec5 p0 t3 x4
def Eb (k:Nat) (p0:AI) (t3:(List (List Bool))):Nat→Int→Option Bool
 | 0,_=>none
 | j+1,x4=>
   if x4<(p0.f1.length:Int)then FI k (Eb k p0 t3 j) p0 t3 x4 k (0:Int)
   else PO k
def Y0 (k:Nat) (p0:AI):Option Bool:=
 (ao k p0).bind fun t3=>
 Eb k p0 t3 k (0:Int)
theorem Sw {k:Nat} {p0:AI} {r:Bool} (h:Y0 k p0=some r):AY Tryz.prog 19 [(Ak p0)] (AD r):=by
 rw[Y0.eq_1]at h;refine AY.intro (res:=[.tmp 2]) Tryz.func19 rfl rfl rfl (Nat.le_of_ble_eq_true rfl) ?_;refine .sr ?_;refine .box rfl 1 rfl (by decide) rfl rfl rfl fun n2=>?_;refine .a 5 ?_;obtain⟨t3,et3,h⟩:=ob h;refine .callS [(Ak p0)] (.fz 1 (t3.map G7)) 7 rfl (by decide) bR rfl rfl rfl ⟨rfl,rfl,trivial⟩ (UG et3) ?_;refine .a 1 ?_;refine .nK [1,3] ?_;refine .seq_mid (fun ρ H=>ρ=[]∧H=[]∧PO k=some r) ?_ ?_
 ·refine .a 5 ?_;refine .wK [1,3,4] ?_;refine .loop (fun kq ρ H=>∃ (x4:Int),ρ=[(1,(.ptr n2 0)),(3,(.fz 1 (t3.map G7))),(4,(AB x4))]∧H=[(n2,(.mem (Ak p0)))]∧Eb k p0 t3 kq x4=some r) k ⟨(0:Int),rfl,rfl,h⟩ ?_;rintro kq6 _ _ ⟨x4,rfl,rfl,h⟩
  cases kq6 with
  | zero=>rw[Eb.eq_1]at h;cases h
  | succ kq6=>
  rw[Eb.eq_2]at h;generalize hrec5:Eb k p0 t3 kq6=rec5 at h;refine .a 9 ?_;rcases oi h with⟨c7,h⟩|⟨c7,h⟩
  ·refine .a 1 ?_;refine .sK [1,3,4] ?_;refine .seq_mid (fun ρ H=>ρ=[(1,(.ptr n2 0)),(3,(.fz 1 (t3.map G7))),(4,(AB x4))]∧H=[(n2,(.mem (Ak p0)))]∧Mg k rec5 x4=some r) ?_ ?_
   ·refine .a 1 ?_;refine .seq_mid (fun ρ H=>ρ=[(1,(.ptr n2 0)),(3,(.fz 1 (t3.map G7))),(4,(AB x4))]∧H=[(n2,(.mem (Ak p0)))]∧MJ k rec5 p0 t3 x4=some r) ?_ ?_
    ·refine .a 5 ?_;refine .wK [1,3,4,5] ?_;refine .loop (fun kq ρ H=>∃ (x14:Int),ρ=[(1,(.ptr n2 0)),(3,(.fz 1 (t3.map G7))),(4,(AB x4)),(5,(AB x14))]∧H=[(n2,(.mem (Ak p0)))]∧FI k rec5 p0 t3 x4 kq x14=some r) k ⟨(0:Int),rfl,rfl,h⟩ ?_;rintro kq16 _ _ ⟨x14,rfl,rfl,h⟩
     cases kq16 with
     | zero=>rw[FI.eq_1]at h;cases h
     | succ kq16=>
     rw[FI.eq_2]at h;generalize hrec15:FI k rec5 p0 t3 x4 kq16=rec15 at h;refine .a 7 ?_;rcases oi h with⟨c17,h⟩|⟨c17,h⟩
     ·refine .a 8 ?_;obtain⟨g18,h⟩:=AC h;refine .a 3 ?_;obtain⟨g19,h⟩:=AC h;refine .a 4 ?_;rcases oi h with⟨c20,h⟩|⟨c20,h⟩
      ·refine .a 4 ?_;refine .nS [2] [] ?_;refine .rK [2] ?_;have hr:=Option.some.inj h;subst hr;exact⟨[(AD false)],⟨rfl,rfl,trivial⟩,rfl⟩
      refine .a 6 ?_;refine .nK [1,3,4,5] ?_;exact⟨kq16,Nat.lt_succ_self _,(AG (x14+(1:Int))),rfl,rfl,by rw[hrec15];exact h⟩
     refine .a 1 ?_;refine .eK [1,3,4] ?_;exact⟨rfl,rfl,h⟩
    rintro _ _ ⟨rfl,rfl,h⟩;rw[MJ.eq_1]at h;refine .seq ?_;obtain⟨b8,q9,h⟩:=ob h;refine .regQM (by rfl) (by decide+kernel) [(1,(.ptr n2 0)),(3,(.fz 1 (t3.map G7))),(4,(AB x4)),(43,(AD b8))] ?_ ?_
    ·refine .a 2 ?_;obtain⟨g10,q9⟩:=AC q9;refine .a 5 ?_;obtain⟨g11,q9⟩:=AC q9;refine .a 4 ?_;rcases oi q9 with⟨c12,q9⟩|⟨c12,q9⟩
     ·refine .a 5 ?_;cases q9;refine .nilE rfl ?_;exact⟨rfl,rfl,rfl,rfl,trivial⟩
     refine .a 5 ?_;cases q9;refine .nilE rfl ?_;exact⟨rfl,rfl,rfl,rfl,trivial⟩
    rcases oi h with⟨c13,h⟩|⟨c13,h⟩
    ·refine .a 4 ?_;refine .nS [2] [] ?_;refine .rK [2] ?_;have hr:=Option.some.inj h;subst hr;exact⟨[(AD false)],⟨rfl,rfl,trivial⟩,rfl⟩
    refine .a 1 ?_;refine .sK [1,3,4] ?_;exact⟨rfl,rfl,h⟩
   rintro _ _ ⟨rfl,rfl,h⟩;rw[Mg.eq_1]at h;refine .a 4 ?_;refine .nK [1,3,4] ?_;exact⟨kq6,Nat.lt_succ_self _,(AG (x4+(1:Int))),rfl,rfl,by rw[hrec5];exact h⟩
  refine .a 1 ?_;refine .eH [] (H':=[]) (.nil _) ?_;exact⟨rfl,rfl,h⟩
 rintro _ _ ⟨rfl,rfl,h⟩;rw[PO.eq_1]at h;refine .a 3 ?_;refine .nK [2] ?_;refine .rK [2] ?_;have hr:=Option.some.inj h;subst hr;exact⟨[(AD true)],⟨rfl,rfl,trivial⟩,rfl⟩
end Go.Avl.T8
