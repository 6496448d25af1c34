/- Parts: TCf82, TCf52, TCf53, TCf23, TCf54, TCf55, TCf24, TCf25, TCf7, TCf5, TCf11, TCf6, TCf110, TCf111, TCf83, TCf56, TCf119, TCf104, TCf132, TCf129, TCf137. -/
import Derived.Test.YtpkgpmmcbpfenaaGreatAF1
import Derived.Test.YtpkgpmmcbpfenaaGreatAF4
namespace Go.Avl.TC
open Go Go.RowKit Go.Proofs Go.Avl
set_option linter.unusedVariables false
set_option maxRecDepth 100000
set_option maxHeartbeats 4000000
attribute [local irreducible] AW AO AQ AM Al AG
def Kc (k:Nat):Option Int:=
 some ((-1:Int))
def D8 (k:Nat) (p0:(List ByteArray)) (p1:ByteArray):Nat→Int→Option Int
 | 0,_=>none
 | j+1,x3=>
   if x3<(p0.length:Int)then if 0≤x3∧x3<(p0.length:Int)then if p1=(AC p0 x3)then some (x3)
   else(D8 k p0 p1 j) (AH (x3+(1:Int)))
   else none
   else Kc k
def UT (k:Nat) (p0:(List ByteArray)) (p1:ByteArray):Option Int:=
 D8 k p0 p1 k (0:Int)
theorem PC {k:Nat} {p0:(List ByteArray)} {p1:ByteArray} {r:Int} (h:UT k p0 p1=some r):AM Tryz.prog 82 [(.fz 1 (p0.map AI)),(AI p1)] (AA r):=by
 rw[UT.eq_1]at h;refine AM.intro (res:=[.tmp 4]) Tryz.func82 rfl rfl rfl (Nat.le_of_ble_eq_true rfl) ?_;refine .a 3 ?_;refine .nK [0,1] ?_;refine .seq_mid (fun ρ H=>ρ=[]∧H=[]∧Kc k=some r) ?_ ?_
 ·refine .a 7 ?_;refine .wK [0,1,7,8] ?_;refine .loop (fun kq ρ H=>∃ (x3:Int),ρ=[(0,(.fz 1 (p0.map AI))),(1,(AI p1)),(7,(AA (p0.length:Int))),(8,(AA x3))]∧H=[]∧D8 k p0 p1 kq x3=some r) k ⟨(0:Int),rfl,rfl,h⟩ ?_;rintro kq5 _ _ ⟨x3,rfl,rfl,h⟩
  cases kq5 with
  | zero=>rw[D8.eq_1]at h;cases h
  | succ kq5=>
  rw[D8.eq_2]at h;generalize hrec4:D8 k p0 p1 kq5=rec4 at h;refine .a 5 ?_;rcases oi h with⟨c6,h⟩|⟨c6,h⟩
  ·refine .a 14 ?_;obtain⟨g7,h⟩:=AD h;refine .a 4 ?_;rcases oi h with⟨c8,h⟩|⟨c8,h⟩
   ·refine .a 5 ?_;refine .nK [4] ?_;refine .rK [4] ?_;have hr:=Option.some.inj h;subst hr;exact⟨[(AA x3)],⟨rfl,rfl,trivial⟩,rfl⟩
   refine .a 5 ?_;refine .nK [0,1,7,8] ?_;exact⟨kq5,Nat.lt_succ_self _,(AH (x3+(1:Int))),rfl,rfl,by rw[hrec4];exact h⟩
  refine .a 1 ?_;refine .eK [] ?_;exact⟨rfl,rfl,h⟩
 rintro _ _ ⟨rfl,rfl,h⟩;rw[Kc.eq_1]at h;refine .a 3 ?_;refine .nK [4] ?_;refine .rK [4] ?_;cases h;exact⟨[(AA (-1:Int))],⟨rfl,rfl,trivial⟩,rfl⟩
def Sr (k:Nat) (p0:(List ByteArray)) (p1:ByteArray):Option Bool:=
 (UT k p0 p1).bind fun t3=>
 some (decide ((0:Int)≤t3))
theorem O7 {k:Nat} {p0:(List ByteArray)} {p1:ByteArray} {r:Bool} (h:Sr k p0 p1=some r):AM Tryz.prog 52 [(.fz 1 (p0.map AI)),(AI p1)] (AB r):=by
 rw[Sr.eq_1]at h;refine AM.intro (res:=[.tmp 4]) Tryz.func52 rfl rfl rfl (Nat.le_of_ble_eq_true rfl) ?_;refine .a 8 ?_;obtain⟨t3,et3,h⟩:=ob h;refine .callS [(.fz 1 (p0.map AI)),(AI p1)] (AA t3) 7 rfl (by decide) V2 rfl rfl rfl ⟨rfl,rfl,rfl,rfl,trivial⟩ (PC et3) ?_;refine .a 2 ?_;refine .nK [4] ?_;refine .rK [4] ?_;cases h;exact⟨[(AB (decide ((0:Int)≤t3)))],⟨rfl,rfl,trivial⟩,rfl⟩
def K3 (k:Nat):Option Int:=
 some ((-1:Int))
def EB (k:Nat) (p0:(List B7)) (p1:ByteArray):Nat→Int→Option Int
 | 0,_=>none
 | j+1,x3=>
   if x3<(p0.length:Int)then if 0≤x3∧x3<(p0.length:Int)then if((AC p0 x3).f0)=p1 then some (x3)
   else(EB k p0 p1 j) (AH (x3+(1:Int)))
   else none
   else K3 k
def UY (k:Nat) (p0:(List B7)) (p1:ByteArray):Option Int:=
 EB k p0 p1 k (0:Int)
theorem Oe {k:Nat} {p0:(List B7)} {p1:ByteArray} {r:Int} (h:UY k p0 p1=some r):AM Tryz.prog 53 [(.fz 3 (p0.map DT)),(AI p1)] (AA r):=by
 rw[UY.eq_1]at h;refine AM.intro (res:=[.tmp 4]) Tryz.func53 rfl rfl rfl (Nat.le_of_ble_eq_true rfl) ?_;refine .a 3 ?_;refine .nK [0,1] ?_;refine .seq_mid (fun ρ H=>ρ=[]∧H=[]∧K3 k=some r) ?_ ?_
 ·refine .a 7 ?_;refine .wK [1,7,8,9] ?_;refine .loop (fun kq ρ H=>∃ (x3:Int),ρ=[(1,(AI p1)),(7,(.fz 3 (p0.map DT))),(8,(AA (p0.length:Int))),(9,(AA x3))]∧H=[]∧EB k p0 p1 kq x3=some r) k ⟨(0:Int),rfl,rfl,h⟩ ?_;rintro kq5 _ _ ⟨x3,rfl,rfl,h⟩
  cases kq5 with
  | zero=>rw[EB.eq_1]at h;cases h
  | succ kq5=>
  rw[EB.eq_2]at h;generalize hrec4:EB k p0 p1 kq5=rec4 at h;refine .a 5 ?_;rcases oi h with⟨c6,h⟩|⟨c6,h⟩
  ·refine .a 7 ?_;obtain⟨g7,h⟩:=AD h;refine .a 2 ?_;refine .alloc rfl 6 rfl (by decide) rfl Ni Je fun n8=>?_;refine .a 1 ?_;refine .store 0 rfl rfl rfl rfl rfl rfl (.cast .here rfl) rfl rfl K6 rfl ?_;refine .a 7 ?_;refine .nS [1,5,7,8,9,17] [] ?_;rcases oi h with⟨c9,h⟩|⟨c9,h⟩
   ·refine .a 5 ?_;refine .nK [4] ?_;refine .rK [4] ?_;have hr:=Option.some.inj h;subst hr;exact⟨[(AA x3)],⟨rfl,rfl,trivial⟩,rfl⟩
   refine .a 5 ?_;refine .nK [1,7,8,9] ?_;exact⟨kq5,Nat.lt_succ_self _,(AH (x3+(1:Int))),rfl,rfl,by rw[hrec4];exact h⟩
  refine .a 1 ?_;refine .eK [] ?_;exact⟨rfl,rfl,h⟩
 rintro _ _ ⟨rfl,rfl,h⟩;rw[K3.eq_1]at h;refine .a 3 ?_;refine .nK [4] ?_;refine .rK [4] ?_;cases h;exact⟨[(AA (-1:Int))],⟨rfl,rfl,trivial⟩,rfl⟩
def Ku (k:Nat):Option Ca:=
 some ((Ca.mk (0:Int) (0:Int) (0:Int)))
def Ci (k:Nat) (p0:A6):Nat→Int→Option Ca
 | 0,_=>none
 | j+1,x5=>
   if x5<(p0.f1.length:Int)then if 0≤x5∧x5<(p0.f1.length:Int)then(Mz k (AC p0.f1 x5)).bind fun t10=>
   if(!t10)=true then some ((Ca.mk (8:Int) (2:Int) x5))
   else Option.bind (α:=Bool) (if 0≤(0:Int)∧(0:Int)≤x5∧x5≤(p0.f1.length:Int)then(Sr k (Bd p0.f1 (0:Int) x5) (AC p0.f1 x5)).bind fun t15=>
   if t15=true then some (true)
   else(UY k p0.f0 (AC p0.f1 x5)).bind fun t17=>
   some (decide ((0:Int)≤t17))
   else none) fun b12=>
   if b12=true then some ((Ca.mk (9:Int) (2:Int) x5))
   else(Ci k p0 j) (AH (x5+(1:Int)))
   else none
   else Ku k
def Tb (k:Nat) (p0:A6):Option Ca:=
 if(300:Int)<(p0.f1.length:Int)then some ((Ca.mk (6:Int) (2:Int) (p0.f1.length:Int)))
 else Ci k p0 k (0:Int)
theorem Ns {k:Nat} {p0:A6} {r:Ca} (h:Tb k p0=some r):AM Tryz.prog 23 [(BA p0)] (GW r):=by
 rw[Tb.eq_1]at h;refine AM.intro (res:=[.cell 2 32]) Tryz.func23 rfl rfl rfl (Nat.le_of_ble_eq_true rfl) ?_;refine .sr ?_;refine .box rfl 1 rfl (by decide) rfl rfl rfl fun n2=>?_;refine .alloc rfl 2 rfl (by decide) rfl Du B6 fun n3=>?_;refine .nS [1,2] [1,0] ?_;refine .a 8 ?_;rcases oi h with⟨c4,h⟩|⟨c4,h⟩
 ·refine .a 6 ?_;refine .c (x:=(Lt (6:Int) (2:Int) (p0.f1.length:Int))) (.build (qs:=[(0,(AA (6:Int))),(1,(AA (2:Int))),(2,(AA (p0.f1.length:Int)))]) rfl ⟨rfl,rfl,rfl,rfl,rfl,rfl,rfl,rfl,rfl,trivial⟩ Tryz.underlying32 rfl Du B6 (.cons rfl rfl rfl rfl (.cast (.fld0 .here) rfl) (.cons rfl rfl rfl rfl (.cast (.fldS (.fld0 .here)) rfl) (.cons rfl rfl rfl rfl (.cast (.fldS (.fldS (.fld0 .here))) rfl) .nil))) rfl) ?_;refine .store 1 rfl rfl rfl rfl rfl rfl (.cast .here rfl) rfl rfl Bj rfl ?_;refine .nS [2] [1] ?_;refine .rK [2] ?_;cases h;exact⟨[(GW (Ca.mk (6:Int) (2:Int) (p0.f1.length:Int)))],⟨⟨_,0,rfl,rfl,E9,Bj⟩,trivial⟩,rfl⟩
 refine .a 1 ?_;refine .sK [1,2] ?_;refine .seq_mid (fun ρ H=>ρ=[(2,(.ptr n3 0))]∧H=[(Kv n3 (0:Int))]∧Ku k=some r) ?_ ?_
 ·refine .a 8 ?_;refine .wK [1,2,14,15,16] ?_;refine .loop (fun kq ρ H=>∃ (x5:Int),ρ=[(1,(.ptr n2 0)),(2,(.ptr n3 0)),(14,(.fz 1 (p0.f1.map AI))),(15,(AA (p0.f1.length:Int))),(16,(AA x5))]∧H=[(n2,(.mem (BA p0))),(Kv n3 (0:Int))]∧Ci k p0 kq x5=some r) k ⟨(0:Int),rfl,rfl,h⟩ ?_;rintro kq7 _ _ ⟨x5,rfl,rfl,h⟩
  cases kq7 with
  | zero=>rw[Ci.eq_1]at h;cases h
  | succ kq7=>
  rw[Ci.eq_2]at h;generalize hrec6:Ci k p0 kq7=rec6 at h;refine .a 5 ?_;rcases oi h with⟨c8,h⟩|⟨c8,h⟩
  ·refine .a 7 ?_;obtain⟨g9,h⟩:=AD h;refine .a 9 ?_;obtain⟨t10,et10,h⟩:=ob h;refine .callS [(AI (AC p0.f1 x5))] (AB t10) 23 rfl (by decide) RZ rfl rfl rfl ⟨rfl,rfl,trivial⟩ (Hp et10) ?_;refine .a 3 ?_;rcases oi h with⟨c11,h⟩|⟨c11,h⟩
   ·refine .a 4 ?_;refine .c (x:=(Lt (8:Int) (2:Int) x5)) (.build (qs:=[(0,(AA (8:Int))),(1,(AA (2:Int))),(2,(AA x5))]) rfl ⟨rfl,rfl,rfl,rfl,rfl,rfl,rfl,rfl,rfl,trivial⟩ Tryz.underlying32 rfl Du B6 (.cons rfl rfl rfl rfl (.cast (.fld0 .here) rfl) (.cons rfl rfl rfl rfl (.cast (.fldS (.fld0 .here)) rfl) (.cons rfl rfl rfl rfl (.cast (.fldS (.fldS (.fld0 .here))) rfl) .nil))) rfl) ?_;refine .store 1 rfl rfl rfl rfl rfl rfl (.cast .here rfl) rfl rfl Bj rfl ?_;refine .nS [2] [1] ?_;refine .rK [2] ?_;cases h;exact⟨[(GW (Ca.mk (8:Int) (2:Int) x5))],⟨⟨_,0,rfl,rfl,E9,Bj⟩,trivial⟩,rfl⟩
   refine .a 2 ?_;obtain⟨b12,q13,h⟩:=ob h;refine .regM [(1,(.ptr n2 0)),(2,(.ptr n3 0)),(3,(AA x5)),(14,(.fz 1 (p0.f1.map AI))),(15,(AA (p0.f1.length:Int))),(16,(AA x5)),(27,(AB b12))] [(n2,(.mem (BA p0))),(Kv n3 (0:Int))] ?_ ?_
   ·refine .a 3 ?_;obtain⟨g14,q13⟩:=AD q13;refine .c (x:=.fz 1 ((Bd p0.f1 (0:Int) x5).map AI)) (.sliceL rfl rfl rfl rfl g14 Tryz.underlying23 JZ) ?_;refine .a 1 ?_;obtain⟨t15,et15,q13⟩:=ob q13;refine .callS [(.fz 1 ((Bd p0.f1 (0:Int) x5).map AI)),(AI (AC p0.f1 x5))] (AB t15) 33 rfl (by decide) VJ rfl rfl rfl ⟨rfl,rfl,rfl,rfl,trivial⟩ (O7 et15) ?_;refine .a 1 ?_;rcases oi q13 with⟨c16,q13⟩|⟨c16,q13⟩
    ·refine .a 7 ?_;cases q13;refine .nilE ⟨rfl,rfl⟩ ?_ ?_
     ·exact⟨rfl,rfl,rfl,rfl,rfl,rfl,rfl,trivial⟩
     exact(.refl _)
    refine .a 3 ?_;obtain⟨t17,et17,q13⟩:=ob q13;refine .callG 6 false 34 [(.fz 3 (p0.f0.map DT)),(AI (AC p0.f1 x5))] (AA t17) 38 rfl (by decide) Vx rfl rfl (bD (eq_false_of_ne_true c16)) rfl rfl ⟨rfl,rfl,rfl,rfl,trivial⟩ (Oe et17) ?_;refine .a 3 ?_;cases q13;refine .nilE ⟨rfl,rfl⟩ ?_ ?_
    ·exact⟨rfl,rfl,rfl,rfl,rfl,rfl,rfl,trivial⟩
    exact(.refl _)
   rcases oi h with⟨c18,h⟩|⟨c18,h⟩
   ·refine .a 4 ?_;refine .c (x:=(Lt (9:Int) (2:Int) x5)) (.build (qs:=[(0,(AA (9:Int))),(1,(AA (2:Int))),(2,(AA x5))]) rfl ⟨rfl,rfl,rfl,rfl,rfl,rfl,rfl,rfl,rfl,trivial⟩ Tryz.underlying32 rfl Du B6 (.cons rfl rfl rfl rfl (.cast (.fld0 .here) rfl) (.cons rfl rfl rfl rfl (.cast (.fldS (.fld0 .here)) rfl) (.cons rfl rfl rfl rfl (.cast (.fldS (.fldS (.fld0 .here))) rfl) .nil))) rfl) ?_;refine .store 1 rfl rfl rfl rfl rfl rfl (.cast .here rfl) rfl rfl Bj rfl ?_;refine .nS [2] [1] ?_;refine .rK [2] ?_;cases h;exact⟨[(GW (Ca.mk (9:Int) (2:Int) x5))],⟨⟨_,0,rfl,rfl,E9,Bj⟩,trivial⟩,rfl⟩
   refine .a 5 ?_;refine .nK [1,2,14,15,16] ?_;exact⟨kq7,Nat.lt_succ_self _,(AH (x5+(1:Int))),rfl,rfl,by rw[hrec6];exact h⟩
  refine .a 1 ?_;refine .eH [2] (H':=[(Kv n3 (0:Int))]) (.cons 1 rfl (.nil _)) ?_;exact⟨rfl,rfl,h⟩
 rintro _ _ ⟨rfl,rfl,h⟩;rw[Ku.eq_1]at h;refine .sr ?_;refine .c (x:=(Lt (0:Int) (0:Int) (0:Int))) (.build (qs:=[]) rfl trivial Tryz.underlying32 rfl Du B6 .nil rfl) ?_;refine .store 0 rfl rfl rfl rfl rfl rfl (.cast .here rfl) rfl rfl Bj rfl ?_;refine .nK [2] ?_;refine .rK [2] ?_;cases h;exact⟨[(GW (Ca.mk (0:Int) (0:Int) (0:Int)))],⟨⟨_,0,rfl,rfl,E9,Bj⟩,trivial⟩,rfl⟩
def RO (k:Nat) (p0:A6) (p1:A7):Option Bool:=
 if p1.f0=true then Option.bind (α:=Bool) (if(0:Int)≤p1.f1 then some (decide (p1.f1<(p0.f1.length:Int)))
 else some (false)) fun b6=>
 some (b6)
 else Option.bind (α:=Bool) (if(0:Int)≤p1.f1 then if p1.f1<(p0.f0.length:Int)then if 0≤p1.f1∧p1.f1<(p0.f0.length:Int)then some (decide (((AC p0.f0 p1.f1).f1)=(0:Int)))
 else none
 else some (false)
 else some (false)) fun b9=>
 some (b9)
theorem HY {k:Nat} {p0:A6} {p1:A7} {r:Bool} (h:RO k p0 p1=some r):AM Tryz.prog 54 [(BA p0),(Ea p1)] (AB r):=by
 rw[RO.eq_1]at h;refine AM.intro (res:=[.tmp 4]) Tryz.func54 rfl rfl rfl (Nat.le_of_ble_eq_true rfl) ?_;refine .sr ?_;refine .box rfl 2 rfl (by decide) rfl rfl rfl fun n3=>?_;refine .box rfl 3 rfl (by decide) rfl rfl rfl fun n4=>?_;refine .a 1 ?_;refine .nS [2,3] [1,0] ?_;refine .a 6 ?_;rcases oi h with⟨c5,h⟩|⟨c5,h⟩
 ·refine .a 2 ?_;obtain⟨b6,q7,h⟩:=ob h;refine .regM [(4,(AB b6))] [] ?_ ?_
  ·refine .a 4 ?_;rcases oi q7 with⟨c8,q7⟩|⟨c8,q7⟩
   ·refine .a 8 ?_;cases q7;refine .nilE ⟨rfl,rfl⟩ ?_ ?_
    ·exact⟨rfl,trivial⟩
    exact(.nil _)
   refine .a 8 ?_;cases q7;refine .nilE ⟨rfl,rfl⟩ ?_ ?_
   ·exact⟨rfl,trivial⟩
   exact(.nil _)
  refine .rK [4] ?_;have hr:=Option.some.inj h;subst hr;exact⟨[(AB b6)],⟨rfl,rfl,trivial⟩,rfl⟩
 refine .a 3 ?_;obtain⟨b9,q10,h⟩:=ob h;refine .regM [(4,(AB b9))] [] ?_ ?_
 ·refine .a 4 ?_;rcases oi q10 with⟨c11,q10⟩|⟨c11,q10⟩
  ·refine .a 8 ?_;rcases oi q10 with⟨c12,q10⟩|⟨c12,q10⟩
   ·refine .a 4 ?_;obtain⟨g13,q10⟩:=AD q10;refine .a 1 ?_;refine .cG rfl rfl (bD (decide_eq_true c12)) (.fldRp rfl rfl Tryz.underlying53 rfl DZ (.cast (.fldS (.fld0 .here)) rfl)) ?_;refine .a 4 ?_;cases q10;refine .nilE ⟨rfl,rfl⟩ ?_ ?_
    ·exact⟨rfl,trivial⟩
    exact(.nil _)
   refine .a 10 ?_;cases q10;refine .nilE ⟨rfl,rfl⟩ ?_ ?_
   ·exact⟨rfl,trivial⟩
   exact(.nil _)
  refine .a 18 ?_;cases q10;refine .nilE ⟨rfl,rfl⟩ ?_ ?_
  ·exact⟨rfl,trivial⟩
  exact(.nil _)
 refine .rK [4] ?_;have hr:=Option.some.inj h;subst hr;exact⟨[(AB b9)],⟨rfl,rfl,trivial⟩,rfl⟩
def Tv (k:Nat) (p0:Dx):Option Bool:=
 Option.bind (α:=Bool) (if(p0.f2.length:Int)=(3:Int)then if 0≤(0:Int)∧(0:Int)<(p0.f2.length:Int)then if(!((AC p0.f2 (0:Int)).f0))=true then if 0≤(1:Int)∧(1:Int)<(p0.f2.length:Int)then if(AC p0.f2 (1:Int))=(A7.mk true p0.f0)then if 0≤(2:Int)∧(2:Int)<(p0.f2.length:Int)then some (!((AC p0.f2 (2:Int)).f0))
 else none
 else some (false)
 else none
 else some (false)
 else none
 else some (false)) fun b3=>
 some (b3)
theorem Oa {k:Nat} {p0:Dx} {r:Bool} (h:Tv k p0=some r):AM Tryz.prog 55 [(Di p0)] (AB r):=by
 rw[Tv.eq_1]at h;refine AM.intro (res:=[.tmp 2]) Tryz.func55 rfl rfl rfl (Nat.le_of_ble_eq_true rfl) ?_;refine .sr ?_;refine .box rfl 1 rfl (by decide) rfl rfl rfl fun n2=>?_;refine .a 3 ?_;obtain⟨b3,q4,h⟩:=ob h;refine .regQM (by rfl) (by decide+kernel) [(2,(AB b3))] ?_ ?_
 ·refine .a 5 ?_;rcases oi q4 with⟨c5,q4⟩|⟨c5,q4⟩
  ·refine .a 2 ?_;obtain⟨g6,q4⟩:=AD q4;refine .a 1 ?_;refine .cG rfl rfl (bD (decide_eq_true c5)) (.fldRp rfl rfl Tryz.underlying55 rfl C1 (.cast (.fld0 .here) rfl)) ?_;refine .a 4 ?_;rcases oi q4 with⟨c7,q4⟩|⟨c7,q4⟩
   ·refine .a 2 ?_;obtain⟨g8,q4⟩:=AD q4;refine .a 4 ?_;refine .cG (x:=.st [(1,(AB true)),(1,(AA p0.f0))]) rfl rfl (bD c7) (.build (qs:=[(0,(AB true)),(1,(AA p0.f0))]) rfl ⟨rfl,rfl,rfl,rfl,rfl,rfl,trivial⟩ Tryz.underlying55 rfl GZ EU (.cons rfl rfl rfl rfl (.cast (.fld0 .here) rfl) (.cons rfl rfl rfl rfl (.cast (.fldS (.fld0 .here)) rfl) .nil)) rfl) ?_;refine .cG (x:=AB (decide ((AC p0.f2 (1:Int))=(A7.mk true p0.f0)))) rfl rfl (bD c7) (.eqS rfl rfl rfl S4 (Qd (AC p0.f2 (1:Int)) (A7.mk true p0.f0)) (by decide)) ?_;refine .a 2 ?_;rcases oi q4 with⟨c9,q4⟩|⟨c9,q4⟩
    ·refine .a 2 ?_;obtain⟨g10,q4⟩:=AD q4;refine .a 1 ?_;refine .cG rfl rfl (bD (decide_eq_true c9)) (.fldRp rfl rfl Tryz.underlying55 rfl C1 (.cast (.fld0 .here) rfl)) ?_;refine .a 4 ?_;cases q4;refine .nilE rfl ?_;exact⟨rfl,trivial⟩
    refine .a 8 ?_;cases q4;refine .nilE rfl ?_;exact⟨rfl,trivial⟩
   refine .a 18 ?_;cases q4;refine .nilE rfl ?_;exact⟨rfl,trivial⟩
  refine .a 26 ?_;cases q4;refine .nilE rfl ?_;exact⟨rfl,trivial⟩
 refine .rH [2] (H':=[]) (.nil _) ?_;have hr:=Option.some.inj h;subst hr;exact⟨[(AB b3)],⟨rfl,rfl,trivial⟩,rfl⟩
def FP (k:Nat) (p0:A6) (p1:Int):Option Int:=
 Option.bind (α:=Bool) (if((AC p0.f2 p1).f4)≠(-1:Int)then if((AC p0.f2 p1).f4)<(0:Int)then some (true)
 else(RO k p0 (A7.mk false ((AC p0.f2 p1).f4))).bind fun t18=>
 some (!t18)
 else some (false)) fun b14=>
 if b14=true then some ((11:Int))
 else Option.bind (α:=Bool) (if((AC p0.f2 p1).f3)=true then(Tv k (AC p0.f2 p1)).bind fun t23=>
 some (!t23)
 else some (false)) fun b20=>
 if b20=true then some ((15:Int))
 else some ((0:Int))
def DH (k:Nat) (p0:A6) (p1:Int):Nat→Int→Option Int
 | 0,_=>none
 | j+1,x25=>
   if x25<(((AC p0.f2 p1).f5).length:Int)then if 0≤x25∧x25<(((AC p0.f2 p1).f5).length:Int)then Option.bind (α:=Bool) (if(AC ((AC p0.f2 p1).f5) x25)<(0:Int)then some (true)
   else some (decide ((3:Int)<(AC ((AC p0.f2 p1).f5) x25)))) fun b30=>
   if b30=true then some ((1:Int))
   else(DH k p0 p1 j) (AH (x25+(1:Int)))
   else none
   else FP k p0 p1
def Ip (k:Nat) (p0:A6) (p1:Int):Option Int:=
 DH k p0 p1 k (0:Int)
def C7 (k:Nat) (p0:A6) (p1:Int):Nat→Int→Option Int
 | 0,_=>none
 | j+1,x34=>
   if x34<(((AC p0.f2 p1).f2).length:Int)then if 0≤x34∧x34<(((AC p0.f2 p1).f2).length:Int)then(RO k p0 (AC ((AC p0.f2 p1).f2) x34)).bind fun t40=>
   if(!t40)=true then some ((11:Int))
   else(C7 k p0 p1 j) (AH (x34+(1:Int)))
   else none
   else Ip k p0 p1
def I4 (k:Nat) (p0:A6) (p1:Int):Option Int:=
 C7 k p0 p1 k (0:Int)
def Cm (k:Nat) (p0:A6) (p1:Int):Nat→Int→Option Int
 | 0,_=>none
 | j+1,x43=>
   if x43<((Bd p0.f2 (0:Int) p1).length:Int)then if 0≤x43∧x43<((Bd p0.f2 (0:Int) p1).length:Int)then if((AC (Bd p0.f2 (0:Int) p1) x43).f1)=((AC p0.f2 p1).f1)then some ((9:Int))
   else(Cm k p0 p1 j) (AH (x43+(1:Int)))
   else none
   else I4 k p0 p1
def RI (k:Nat) (p0:A6) (p1:Int):Option Int:=
 if 0≤p1∧p1<(p0.f2.length:Int)then Option.bind (α:=Bool) (if((AC p0.f2 p1).f0)<(0:Int)then some (true)
 else some (decide ((p0.f1.length:Int)≤((AC p0.f2 p1).f0)))) fun b6=>
 if b6=true then some ((11:Int))
 else(Mz k ((AC p0.f2 p1).f1)).bind fun t10=>
 if(!t10)=true then some ((8:Int))
 else if(12:Int)<(((AC p0.f2 p1).f2).length:Int)then some ((6:Int))
 else if(((AC p0.f2 p1).f5).length:Int)≠(max (AH ((((AC p0.f2 p1).f2).length:Int) - (1:Int))) (0:Int))then some ((1:Int))
 else if 0≤(0:Int)∧(0:Int)≤p1∧p1≤(p0.f2.length:Int)then Cm k p0 p1 k (0:Int)
 else none
 else none
theorem Ot {k:Nat} {p0:A6} {p1:Int} {r:Int} (h:RI k p0 p1=some r):AM Tryz.prog 24 [(BA p0),(AA p1)] (AA r):=by
 rw[RI.eq_1]at h;refine AM.intro (res:=[.tmp 4]) Tryz.func24 rfl rfl rfl (Nat.le_of_ble_eq_true rfl) ?_;refine .sr ?_;refine .box rfl 2 rfl (by decide) rfl rfl rfl fun n3=>?_;refine .a 7 ?_;obtain⟨g4,h⟩:=AD h;refine .a 2 ?_;refine .alloc rfl 5 rfl (by decide) rfl KB GS fun n5=>?_;refine .store 0 rfl rfl rfl rfl rfl rfl (.cast .here rfl) rfl rfl HQ rfl ?_;refine .nS [1,2,5] [1,0] ?_;refine .a 3 ?_;obtain⟨b6,q7,h⟩:=ob h;refine .regM [(1,(AA p1)),(2,(.ptr n3 0)),(5,(.ptr n5 0)),(17,(AB b6))] [(n3,(.mem (BA p0))),(n5,(.mem (Di (AC p0.f2 p1))))] ?_ ?_
 ·refine .a 4 ?_;rcases oi q7 with⟨c8,q7⟩|⟨c8,q7⟩
  ·refine .a 8 ?_;cases q7;refine .nilE ⟨rfl,rfl⟩ ?_ ?_
   ·exact⟨rfl,rfl,rfl,rfl,trivial⟩
   exact(.refl _)
  refine .a 8 ?_;cases q7;refine .nilE ⟨rfl,rfl⟩ ?_ ?_
  ·exact⟨rfl,rfl,rfl,rfl,trivial⟩
  exact(.refl _)
 rcases oi h with⟨c9,h⟩|⟨c9,h⟩
 ·refine .a 4 ?_;refine .nS [4] [] ?_;refine .rK [4] ?_;cases h;exact⟨[(AA (11:Int))],⟨rfl,rfl,trivial⟩,rfl⟩
 refine .a 5 ?_;obtain⟨t10,et10,h⟩:=ob h;refine .callS [(AI ((AC p0.f2 p1).f1))] (AB t10) 32 rfl (by decide) RZ rfl rfl rfl ⟨rfl,rfl,trivial⟩ (Hp et10) ?_;refine .a 3 ?_;rcases oi h with⟨c11,h⟩|⟨c11,h⟩
 ·refine .a 4 ?_;refine .nS [4] [] ?_;refine .rK [4] ?_;cases h;exact⟨[(AA (8:Int))],⟨rfl,rfl,trivial⟩,rfl⟩
 refine .a 9 ?_;rcases oi h with⟨c12,h⟩|⟨c12,h⟩
 ·refine .a 4 ?_;refine .nS [4] [] ?_;refine .rK [4] ?_;cases h;exact⟨[(AA (6:Int))],⟨rfl,rfl,trivial⟩,rfl⟩
 refine .a 10 ?_;refine .c (x:=AA (max (AH ((((AC p0.f2 p1).f2).length:Int) - (1:Int))) (0:Int))) (.max2 rfl rfl rfl) ?_;refine .a 3 ?_;rcases oi h with⟨c13,h⟩|⟨c13,h⟩
 ·refine .a 4 ?_;refine .nS [4] [] ?_;refine .rK [4] ?_;cases h;exact⟨[(AA (1:Int))],⟨rfl,rfl,trivial⟩,rfl⟩
 refine .a 1 ?_;refine .sK [1,2,5] ?_;refine .seq_mid (fun ρ H=>ρ=[(2,(.ptr n3 0)),(5,(.ptr n5 0))]∧H=[(n3,(.mem (BA p0))),(n5,(.mem (Di (AC p0.f2 p1))))]∧I4 k p0 p1=some r) ?_ ?_
 ·refine .a 5 ?_;obtain⟨g42,h⟩:=AD h;refine .c (x:=.fz 6 ((Bd p0.f2 (0:Int) p1).map Di)) (.sliceL rfl rfl rfl rfl g42 Tryz.underlying24 HQ) ?_;refine .a 4 ?_;refine .wK [2,5,52,53,54] ?_;refine .loop (fun kq ρ H=>∃ (x43:Int),ρ=[(2,(.ptr n3 0)),(5,(.ptr n5 0)),(52,(.fz 6 ((Bd p0.f2 (0:Int) p1).map Di))),(53,(AA ((Bd p0.f2 (0:Int) p1).length:Int))),(54,(AA x43))]∧H=[(n3,(.mem (BA p0))),(n5,(.mem (Di (AC p0.f2 p1))))]∧Cm k p0 p1 kq x43=some r) k ⟨(0:Int),rfl,rfl,h⟩ ?_;rintro kq45 _ _ ⟨x43,rfl,rfl,h⟩
  cases kq45 with
  | zero=>rw[Cm.eq_1]at h;cases h
  | succ kq45=>
  rw[Cm.eq_2]at h;generalize hrec44:Cm k p0 p1 kq45=rec44 at h;refine .a 5 ?_;rcases oi h with⟨c46,h⟩|⟨c46,h⟩
  ·refine .a 6 ?_;obtain⟨g47,h⟩:=AD h;refine .a 2 ?_;refine .alloc rfl 7 rfl (by decide) rfl KB GS fun n48=>?_;refine .store 0 rfl rfl rfl rfl rfl rfl (.cast .here rfl) rfl rfl HQ rfl ?_;refine .nS [2,5,7,52,53,54] [1,2,0] ?_;refine .a 7 ?_;refine .nS [2,5,52,53,54,62] [0,1] ?_;rcases oi h with⟨c49,h⟩|⟨c49,h⟩
   ·refine .a 4 ?_;refine .nS [4] [] ?_;refine .rK [4] ?_;cases h;exact⟨[(AA (9:Int))],⟨rfl,rfl,trivial⟩,rfl⟩
   refine .a 5 ?_;refine .nK [2,5,52,53,54] ?_;exact⟨kq45,Nat.lt_succ_self _,(AH (x43+(1:Int))),rfl,rfl,by rw[hrec44];exact h⟩
  refine .a 1 ?_;refine .eK [2,5] ?_;exact⟨rfl,rfl,h⟩
 rintro _ _ ⟨rfl,rfl,h⟩;rw[I4.eq_1]at h;refine .seq_mid (fun ρ H=>ρ=[(2,(.ptr n3 0)),(5,(.ptr n5 0))]∧H=[(n3,(.mem (BA p0))),(n5,(.mem (Di (AC p0.f2 p1))))]∧Ip k p0 p1=some r) ?_ ?_
 ·refine .a 8 ?_;refine .wK [2,5,65,66,67] ?_;refine .loop (fun kq ρ H=>∃ (x34:Int),ρ=[(2,(.ptr n3 0)),(5,(.ptr n5 0)),(65,(.fz 2 (((AC p0.f2 p1).f2).map Ea))),(66,(AA (((AC p0.f2 p1).f2).length:Int))),(67,(AA x34))]∧H=[(n3,(.mem (BA p0))),(n5,(.mem (Di (AC p0.f2 p1))))]∧C7 k p0 p1 kq x34=some r) k ⟨(0:Int),rfl,rfl,h⟩ ?_;rintro kq36 _ _ ⟨x34,rfl,rfl,h⟩
  cases kq36 with
  | zero=>rw[C7.eq_1]at h;cases h
  | succ kq36=>
  rw[C7.eq_2]at h;generalize hrec35:C7 k p0 p1 kq36=rec35 at h;refine .a 5 ?_;rcases oi h with⟨c37,h⟩|⟨c37,h⟩
  ·refine .a 6 ?_;obtain⟨g38,h⟩:=AD h;refine .a 2 ?_;refine .alloc rfl 9 rfl (by decide) rfl GZ EU fun n39=>?_;refine .store 0 rfl rfl rfl rfl rfl rfl (.cast .here rfl) rfl rfl Mb rfl ?_;refine .nS [2,5,9,65,66,67] [1,2,0] ?_;refine .a 4 ?_;obtain⟨t40,et40,h⟩:=ob h;refine .callS [(BA p0),(Ea (AC ((AC p0.f2 p1).f2) x34))] (AB t40) 73 rfl (by decide) RR rfl rfl rfl ⟨rfl,rfl,rfl,rfl,trivial⟩ (HY et40) ?_;refine .a 1 ?_;refine .nS [2,5,65,66,67,74] [0,1] ?_;rcases oi h with⟨c41,h⟩|⟨c41,h⟩
   ·refine .a 4 ?_;refine .nS [4] [] ?_;refine .rK [4] ?_;cases h;exact⟨[(AA (11:Int))],⟨rfl,rfl,trivial⟩,rfl⟩
   refine .a 5 ?_;refine .nK [2,5,65,66,67] ?_;exact⟨kq36,Nat.lt_succ_self _,(AH (x34+(1:Int))),rfl,rfl,by rw[hrec35];exact h⟩
  refine .a 1 ?_;refine .eK [2,5] ?_;exact⟨rfl,rfl,h⟩
 rintro _ _ ⟨rfl,rfl,h⟩;rw[Ip.eq_1]at h;refine .seq_mid (fun ρ H=>ρ=[(2,(.ptr n3 0)),(5,(.ptr n5 0))]∧H=[(n3,(.mem (BA p0))),(n5,(.mem (Di (AC p0.f2 p1))))]∧FP k p0 p1=some r) ?_ ?_
 ·refine .a 8 ?_;refine .wK [2,5,77,78,79] ?_;refine .loop (fun kq ρ H=>∃ (x25:Int),ρ=[(2,(.ptr n3 0)),(5,(.ptr n5 0)),(77,(Gy ((AC p0.f2 p1).f5))),(78,(AA (((AC p0.f2 p1).f5).length:Int))),(79,(AA x25))]∧H=[(n3,(.mem (BA p0))),(n5,(.mem (Di (AC p0.f2 p1))))]∧DH k p0 p1 kq x25=some r) k ⟨(0:Int),rfl,rfl,h⟩ ?_;rintro kq27 _ _ ⟨x25,rfl,rfl,h⟩
  cases kq27 with
  | zero=>rw[DH.eq_1]at h;cases h
  | succ kq27=>
  rw[DH.eq_2]at h;generalize hrec26:DH k p0 p1 kq27=rec26 at h;refine .a 5 ?_;rcases oi h with⟨c28,h⟩|⟨c28,h⟩
  ·refine .a 6 ?_;obtain⟨g29,h⟩:=AD h;refine .a 5 ?_;obtain⟨b30,q31,h⟩:=ob h;refine .regM [(2,(.ptr n3 0)),(5,(.ptr n5 0)),(77,(Gy ((AC p0.f2 p1).f5))),(78,(AA (((AC p0.f2 p1).f5).length:Int))),(79,(AA x25)),(88,(AB b30))] [(n3,(.mem (BA p0))),(n5,(.mem (Di (AC p0.f2 p1))))] ?_ ?_
   ·refine .a 3 ?_;rcases oi q31 with⟨c32,q31⟩|⟨c32,q31⟩
    ·refine .a 3 ?_;cases q31;refine .nilE ⟨rfl,rfl⟩ ?_ ?_
     ·exact⟨rfl,rfl,rfl,rfl,rfl,rfl,trivial⟩
     exact(.refl _)
    refine .a 3 ?_;cases q31;refine .nilE ⟨rfl,rfl⟩ ?_ ?_
    ·exact⟨rfl,rfl,rfl,rfl,rfl,rfl,trivial⟩
    exact(.refl _)
   rcases oi h with⟨c33,h⟩|⟨c33,h⟩
   ·refine .a 4 ?_;refine .nS [4] [] ?_;refine .rK [4] ?_;cases h;exact⟨[(AA (1:Int))],⟨rfl,rfl,trivial⟩,rfl⟩
   refine .a 5 ?_;refine .nK [2,5,77,78,79] ?_;exact⟨kq27,Nat.lt_succ_self _,(AH (x25+(1:Int))),rfl,rfl,by rw[hrec26];exact h⟩
  refine .a 1 ?_;refine .eK [2,5] ?_;exact⟨rfl,rfl,h⟩
 rintro _ _ ⟨rfl,rfl,h⟩;rw[FP.eq_1]at h;refine .a 2 ?_;obtain⟨b14,q15,h⟩:=ob h;refine .regM [(5,(.ptr n5 0)),(105,(AB b14))] [(n5,(.mem (Di (AC p0.f2 p1))))] ?_ ?_
 ·refine .a 4 ?_;rcases oi q15 with⟨c16,q15⟩|⟨c16,q15⟩
  ·refine .a 4 ?_;rcases oi q15 with⟨c17,q15⟩|⟨c17,q15⟩
   ·refine .a 8 ?_;cases q15;refine .nilE ⟨rfl,rfl⟩ ?_ ?_
    ·exact⟨rfl,rfl,trivial⟩
    exact(.cons 1 rfl (.nil _))
   refine .a 3 ?_;refine .cG (x:=.st [(1,(AB false)),(1,(AA ((AC p0.f2 p1).f4)))]) rfl rfl (bD (decide_eq_false c17)) (.build (qs:=[(1,(AA ((AC p0.f2 p1).f4)))]) rfl ⟨rfl,rfl,rfl,trivial⟩ Tryz.underlying55 rfl GZ EU (.cons rfl rfl rfl rfl (.cast (.fldS (.fld0 .here)) rfl) .nil) rfl) ?_;obtain⟨t18,et18,q15⟩:=ob q15;refine .callG 7 false 97 [(BA p0),(Ea (A7.mk false ((AC p0.f2 p1).f4)))] (AB t18) 102 rfl (by decide) RR rfl rfl (bD (decide_eq_false c17)) rfl rfl ⟨rfl,rfl,rfl,rfl,trivial⟩ (HY et18) ?_;refine .a 3 ?_;cases q15;refine .nilE ⟨rfl,rfl⟩ ?_ ?_
   ·exact⟨rfl,rfl,trivial⟩
   exact(.cons 1 rfl (.nil _))
  refine .a 12 ?_;cases q15;refine .nilE ⟨rfl,rfl⟩ ?_ ?_
  ·exact⟨rfl,rfl,trivial⟩
  exact(.cons 1 rfl (.nil _))
 rcases oi h with⟨c19,h⟩|⟨c19,h⟩
 ·refine .a 4 ?_;refine .nS [4] [] ?_;refine .rK [4] ?_;cases h;exact⟨[(AA (11:Int))],⟨rfl,rfl,trivial⟩,rfl⟩
 refine .a 4 ?_;obtain⟨b20,q21,h⟩:=ob h;refine .regM [(112,(AB b20))] [] ?_ ?_
 ·refine .a 3 ?_;rcases oi q21 with⟨c22,q21⟩|⟨c22,q21⟩
  ·refine .a 1 ?_;obtain⟨t23,et23,q21⟩:=ob q21;refine .callG 2 true 108 [(Di (AC p0.f2 p1))] (AB t23) 110 rfl (by decide) U0 rfl rfl (bD c22) rfl rfl ⟨rfl,rfl,trivial⟩ (Oa et23) ?_;refine .a 2 ?_;cases q21;refine .nilE ⟨rfl,rfl⟩ ?_ ?_
   ·exact⟨rfl,trivial⟩
   exact(.nil _)
  refine .a 4 ?_;cases q21;refine .nilE ⟨rfl,rfl⟩ ?_ ?_
  ·exact⟨rfl,trivial⟩
  exact(.nil _)
 rcases oi h with⟨c24,h⟩|⟨c24,h⟩
 ·refine .a 4 ?_;refine .nK [4] ?_;refine .rK [4] ?_;cases h;exact⟨[(AA (15:Int))],⟨rfl,rfl,trivial⟩,rfl⟩
 refine .a 5 ?_;refine .nK [4] ?_;refine .rK [4] ?_;cases h;exact⟨[(AA (0:Int))],⟨rfl,rfl,trivial⟩,rfl⟩
def Kn (k:Nat):Option Ca:=
 some ((Ca.mk (0:Int) (0:Int) (0:Int)))
def JW (k:Nat) (rec7:((List (Int×Int))→Int→Option Ca)) (x6:Int) (x10:(List (Int×Int))):Option Ca:=
 rec7 x10 (AH (x6+(1:Int)))
def Cf (k:Nat) (rec7:((List (Int×Int))→Int→Option Ca)) (p0:A6) (x6:Int):Nat→(List (Int×Int))→Int→Option Ca
 | 0,_,_=>none
 | j+1,x19,x20=>
   if x20<(((AC p0.f3 x6).f1).length:Int)then if 0≤x20∧x20<(((AC p0.f3 x6).f1).length:Int)then(RO k p0 (A7.mk false (AC ((AC p0.f3 x6).f1) x20))).bind fun t25=>
   if(!t25)=true then some ((Ca.mk (11:Int) (4:Int) x6))
   else if(0:Int)<((An x19 (AC ((AC p0.f3 x6).f1) x20)).getD (0:Int))then some ((Ca.mk (9:Int) (4:Int) x6))
   else(Cf k rec7 p0 x6 j) (A1 x19 (AC ((AC p0.f3 x6).f1) x20) (AH (((An x19 (AC ((AC p0.f3 x6).f1) x20)).getD (0:Int))+(1:Int)))) (AH (x20+(1:Int)))
   else none
   else JW k rec7 x6 x19
def DU (k:Nat) (p0:A6):Nat→(List (Int×Int))→Int→Option Ca
 | 0,_,_=>none
 | j+1,x5,x6=>
   if x6<(p0.f3.length:Int)then if 0≤x6∧x6<(p0.f3.length:Int)then Option.bind (α:=Bool) (if((AC p0.f3 x6).f0)<(1:Int)then some (true)
   else if(3:Int)<((AC p0.f3 x6).f0)then some (true)
   else if(((AC p0.f3 x6).f1).length:Int)=(0:Int)then some (true)
   else some (decide ((60:Int)≤x6))) fun b13=>
   if b13=true then some ((Ca.mk (1:Int) (4:Int) x6))
   else Cf k (DU k p0 j) p0 x6 k x5 (0:Int)
   else none
   else Kn k
def UR (k:Nat) (p0:A6):Option Ca:=
 DU k p0 k ([]:List (Int×Int)) (0:Int)
theorem PD {k:Nat} {p0:A6} {r:Ca} (h:UR k p0=some r):AM Tryz.prog 25 [(BA p0)] (GW r):=by
 rw[UR.eq_1]at h;refine AM.intro (res:=[.cell 2 32]) Tryz.func25 rfl rfl rfl (Nat.le_of_ble_eq_true rfl) ?_;refine .sr ?_;refine .box rfl 1 rfl (by decide) rfl rfl rfl fun n2=>?_;refine .alloc rfl 2 rfl (by decide) rfl Du B6 fun n3=>?_;refine .nS [1,2] [1,0] ?_;refine .sr ?_;refine .makeMap rfl 8 rfl (by decide) rfl fun n4=>?_;refine .a 1 ?_;refine .nS [1,2,3] [1,2,0] ?_;refine .seq_mid (fun ρ H=>ρ=[(2,(.ptr n3 0))]∧H=[(Kv n3 (0:Int))]∧Kn k=some r) ?_ ?_
 ·refine .a 8 ?_;refine .wK [1,2,3,10,11,12] ?_;refine .loop (fun kq ρ H=>∃ (x5:(List (Int×Int))) (x6:Int),ρ=[(1,(.ptr n2 0)),(2,(.ptr n3 0)),(3,(.mp n4)),(10,(.fz 2 (p0.f3.map IV))),(11,(AA (p0.f3.length:Int))),(12,(AA x6))]∧H=[(n2,(.mem (BA p0))),(Kv n3 (0:Int)),(n4,(.map (Ae (Value.int .i64) AA x5)))]∧DU k p0 kq x5 x6=some r) k ⟨([]:List (Int×Int)),(0:Int),rfl,rfl,h⟩ ?_;rintro kq8 _ _ ⟨x5,x6,rfl,rfl,h⟩
  cases kq8 with
  | zero=>rw[DU.eq_1]at h;cases h
  | succ kq8=>
  rw[DU.eq_2]at h;generalize hrec7:DU k p0 kq8=rec7 at h;refine .a 5 ?_;rcases oi h with⟨c9,h⟩|⟨c9,h⟩
  ·refine .a 1 ?_;refine .sK [1,2,3,10,11,12] ?_;refine .seq_mid (fun ρ H=>∃ (x10:(List (Int×Int))),ρ=[(1,(.ptr n2 0)),(2,(.ptr n3 0)),(3,(.mp n4)),(10,(.fz 2 (p0.f3.map IV))),(11,(AA (p0.f3.length:Int))),(12,(AA x6))]∧H=[(n2,(.mem (BA p0))),(Kv n3 (0:Int)),(n4,(.map (Ae (Value.int .i64) AA x10)))]∧JW k rec7 x6 x10=some r) ?_ ?_
   ·refine .a 4 ?_;obtain⟨g11,h⟩:=AD h;refine .a 2 ?_;refine .alloc rfl 5 rfl (by decide) rfl QI Lr fun n12=>?_;refine .a 1 ?_;refine .store 0 rfl rfl rfl rfl rfl rfl (.cast .here rfl) rfl rfl LC rfl ?_;refine .nS [1,2,3,4,5,10,11,12] [1,2,3,0] ?_;refine .a 2 ?_;obtain⟨b13,q14,h⟩:=ob h;refine .regM [(1,(.ptr n2 0)),(2,(.ptr n3 0)),(3,(.mp n4)),(4,(AA x6)),(5,(.ptr n12 0)),(10,(.fz 2 (p0.f3.map IV))),(11,(AA (p0.f3.length:Int))),(12,(AA x6)),(34,(AB b13))] [(n2,(.mem (BA p0))),(Kv n3 (0:Int)),(n4,(.map (Ae (Value.int .i64) AA x5))),(n12,(.mem (IV (AC p0.f3 x6))))] ?_ ?_
    ·refine .a 4 ?_;rcases oi q14 with⟨c15,q14⟩|⟨c15,q14⟩
     ·refine .a 14 ?_;cases q14;refine .nilE ⟨rfl,rfl⟩ ?_ ?_
      ·exact⟨rfl,rfl,rfl,rfl,rfl,rfl,rfl,rfl,rfl,trivial⟩
      exact(.refl _)
     refine .a 5 ?_;rcases oi q14 with⟨c16,q14⟩|⟨c16,q14⟩
     ·refine .a 9 ?_;cases q14;refine .nilE ⟨rfl,rfl⟩ ?_ ?_
      ·exact⟨rfl,rfl,rfl,rfl,rfl,rfl,rfl,rfl,rfl,trivial⟩
      exact(.refl _)
     refine .a 6 ?_;rcases oi q14 with⟨c17,q14⟩|⟨c17,q14⟩
     ·refine .a 3 ?_;cases q14;refine .nilE ⟨rfl,rfl⟩ ?_ ?_
      ·exact⟨rfl,rfl,rfl,rfl,rfl,rfl,rfl,rfl,rfl,trivial⟩
      exact(.refl _)
     refine .a 3 ?_;cases q14;refine .nilE ⟨rfl,rfl⟩ ?_ ?_
     ·exact⟨rfl,rfl,rfl,rfl,rfl,rfl,rfl,rfl,rfl,trivial⟩
     exact(.refl _)
    rcases oi h with⟨c18,h⟩|⟨c18,h⟩
    ·refine .a 4 ?_;refine .c (x:=(Lt (1:Int) (4:Int) x6)) (.build (qs:=[(0,(AA (1:Int))),(1,(AA (4:Int))),(2,(AA x6))]) rfl ⟨rfl,rfl,rfl,rfl,rfl,rfl,rfl,rfl,rfl,trivial⟩ Tryz.underlying32 rfl Du B6 (.cons rfl rfl rfl rfl (.cast (.fld0 .here) rfl) (.cons rfl rfl rfl rfl (.cast (.fldS (.fld0 .here)) rfl) (.cons rfl rfl rfl rfl (.cast (.fldS (.fldS (.fld0 .here))) rfl) .nil))) rfl) ?_;refine .store 1 rfl rfl rfl rfl rfl rfl (.cast .here rfl) rfl rfl Bj rfl ?_;refine .nS [2] [1] ?_;refine .rK [2] ?_;cases h;exact⟨[(GW (Ca.mk (1:Int) (4:Int) x6))],⟨⟨_,0,rfl,rfl,E9,Bj⟩,trivial⟩,rfl⟩
    refine .a 8 ?_;refine .nS [1,2,3,4,10,11,12,38,39,40] [0,1,2] ?_;refine .a 1 ?_;refine .wK [1,2,3,4,10,11,12,38,39,40] ?_;refine .loop (fun kq ρ H=>∃ (x19:(List (Int×Int))) (x20:Int),ρ=[(1,(.ptr n2 0)),(2,(.ptr n3 0)),(3,(.mp n4)),(4,(AA x6)),(10,(.fz 2 (p0.f3.map IV))),(11,(AA (p0.f3.length:Int))),(12,(AA x6)),(38,(Gy ((AC p0.f3 x6).f1))),(39,(AA (((AC p0.f3 x6).f1).length:Int))),(40,(AA x20))]∧H=[(n2,(.mem (BA p0))),(Kv n3 (0:Int)),(n4,(.map (Ae (Value.int .i64) AA x19)))]∧Cf k rec7 p0 x6 kq x19 x20=some r) k ⟨x5,(0:Int),rfl,rfl,h⟩ ?_;rintro kq22 _ _ ⟨x19,x20,rfl,rfl,h⟩
    cases kq22 with
    | zero=>rw[Cf.eq_1]at h;cases h
    | succ kq22=>
    rw[Cf.eq_2]at h;generalize hrec21:Cf k rec7 p0 x6 kq22=rec21 at h;refine .a 5 ?_;rcases oi h with⟨c23,h⟩|⟨c23,h⟩
    ·refine .a 6 ?_;obtain⟨g24,h⟩:=AD h;refine .a 10 ?_;refine .c (x:=(.st [(1,(AB false)),(1,(AA (AC ((AC p0.f3 x6).f1) x20)))])) (.build (qs:=[(1,(AA (AC ((AC p0.f3 x6).f1) x20)))]) rfl ⟨rfl,rfl,rfl,trivial⟩ Tryz.underlying55 rfl GZ EU (.cons rfl rfl rfl rfl (.cast (.fldS (.fld0 .here)) rfl) .nil) rfl) ?_;obtain⟨t25,et25,h⟩:=ob h;refine .callS [(BA p0),(Ea (A7.mk false (AC ((AC p0.f3 x6).f1) x20)))] (AB t25) 48 rfl (by decide) RR rfl rfl rfl ⟨rfl,rfl,rfl,rfl,trivial⟩ (HY et25) ?_;refine .a 3 ?_;rcases oi h with⟨c26,h⟩|⟨c26,h⟩
     ·refine .a 4 ?_;refine .c (x:=(Lt (11:Int) (4:Int) x6)) (.build (qs:=[(0,(AA (11:Int))),(1,(AA (4:Int))),(2,(AA x6))]) rfl ⟨rfl,rfl,rfl,rfl,rfl,rfl,rfl,rfl,rfl,trivial⟩ Tryz.underlying32 rfl Du B6 (.cons rfl rfl rfl rfl (.cast (.fld0 .here) rfl) (.cons rfl rfl rfl rfl (.cast (.fldS (.fld0 .here)) rfl) (.cons rfl rfl rfl rfl (.cast (.fldS (.fldS (.fld0 .here))) rfl) .nil))) rfl) ?_;refine .store 1 rfl rfl rfl rfl rfl rfl (.cast .here rfl) rfl rfl Bj rfl ?_;refine .nS [2] [1] ?_;refine .rK [2] ?_;cases h;exact⟨[(GW (Ca.mk (11:Int) (4:Int) x6))],⟨⟨_,0,rfl,rfl,E9,Bj⟩,trivial⟩,rfl⟩
     refine .a 5 ?_;refine .c (x:=AA ((An x19 (AC ((AC p0.f3 x6).f1) x20)).getD (0:Int))) (.look1 (f:=AA) (Ic (k:=.i64)) (JQ (k:=.i64)) (0:Int) 2 rfl rfl rfl rfl Tryz.underlying103 Tryz.underlying3 Sb rfl rfl) ?_;refine .a 3 ?_;rcases oi h with⟨c27,h⟩|⟨c27,h⟩
     ·refine .a 4 ?_;refine .c (x:=(Lt (9:Int) (4:Int) x6)) (.build (qs:=[(0,(AA (9:Int))),(1,(AA (4:Int))),(2,(AA x6))]) rfl ⟨rfl,rfl,rfl,rfl,rfl,rfl,rfl,rfl,rfl,trivial⟩ Tryz.underlying32 rfl Du B6 (.cons rfl rfl rfl rfl (.cast (.fld0 .here) rfl) (.cons rfl rfl rfl rfl (.cast (.fldS (.fld0 .here)) rfl) (.cons rfl rfl rfl rfl (.cast (.fldS (.fldS (.fld0 .here))) rfl) .nil))) rfl) ?_;refine .store 1 rfl rfl rfl rfl rfl rfl (.cast .here rfl) rfl rfl Bj rfl ?_;refine .nS [2] [1] ?_;refine .rK [2] ?_;cases h;exact⟨[(GW (Ca.mk (9:Int) (4:Int) x6))],⟨⟨_,0,rfl,rfl,E9,Bj⟩,trivial⟩,rfl⟩
     refine .a 5 ?_;refine .c (x:=AA ((An x19 (AC ((AC p0.f3 x6).f1) x20)).getD (0:Int))) (.look1 (f:=AA) (Ic (k:=.i64)) (JQ (k:=.i64)) (0:Int) 2 rfl rfl rfl rfl Tryz.underlying103 Tryz.underlying3 Sb rfl rfl) ?_;refine .a 1 ?_;refine .mapPut (f:=AA) (Ic (k:=.i64)) (JQ (k:=.i64)) 2 rfl rfl rfl rfl rfl rfl rfl rfl Tryz.underlying103 Tryz.underlying3 ?_;refine .a 4 ?_;refine .nK [1,2,3,4,10,11,12,38,39,40] ?_;exact⟨kq22,Nat.lt_succ_self _,(A1 x19 (AC ((AC p0.f3 x6).f1) x20) (AH (((An x19 (AC ((AC p0.f3 x6).f1) x20)).getD (0:Int))+(1:Int)))),(AH (x20+(1:Int))),rfl,rfl,by rw[hrec21];exact h⟩
    refine .a 1 ?_;refine .eK [1,2,3,10,11,12] ?_;exact⟨x19,rfl,rfl,h⟩
   rintro _ _ ⟨x10,rfl,rfl,h⟩;rw[JW.eq_1]at h;refine .a 3 ?_;refine .nK [1,2,3,10,11,12] ?_;exact⟨kq8,Nat.lt_succ_self _,x10,(AH (x6+(1:Int))),rfl,rfl,by rw[hrec7];exact h⟩
  refine .a 1 ?_;refine .eH [2] (H':=[(Kv n3 (0:Int))]) (.cons 1 rfl (.nil _)) ?_;exact⟨rfl,rfl,h⟩
 rintro _ _ ⟨rfl,rfl,h⟩;rw[Kn.eq_1]at h;refine .sr ?_;refine .c (x:=(Lt (0:Int) (0:Int) (0:Int))) (.build (qs:=[]) rfl trivial Tryz.underlying32 rfl Du B6 .nil rfl) ?_;refine .store 0 rfl rfl rfl rfl rfl rfl (.cast .here rfl) rfl rfl Bj rfl ?_;refine .nK [2] ?_;refine .rK [2] ?_;cases h;exact⟨[(GW (Ca.mk (0:Int) (0:Int) (0:Int)))],⟨⟨_,0,rfl,rfl,E9,Bj⟩,trivial⟩,rfl⟩
def J0 (k:Nat) (p0:A6):Option Ca:=
 (UR k p0).bind fun t10=>
 if t10.f0≠(0:Int)then some (t10)
 else Option.bind (α:=Bool) (if p0.f4<(0:Int)then some (true)
 else some (decide ((p0.f1.length:Int)≤p0.f4))) fun b13=>
 if b13=true then some ((Ca.mk (11:Int) (5:Int) (0:Int)))
 else some ((Ca.mk (0:Int) (0:Int) (0:Int)))
def Ej (k:Nat) (p0:A6):Nat→Int→Option Ca
 | 0,_=>none
 | j+1,x17=>
   if x17<(p0.f2.length:Int)then(RI k p0 x17).bind fun t21=>
   if t21≠(0:Int)then some ((Ca.mk t21 (3:Int) x17))
   else(Ej k p0 j) (AH (x17+(1:Int)))
   else J0 k p0
def F7 (k:Nat) (p0:A6):Option Ca:=
 (UU k p0.f0).bind fun t4=>
 if t4.2≠(0:Int)then some ((Ca.mk t4.2 (1:Int) t4.1))
 else(Tb k p0).bind fun t6=>
 if t6.f0≠(0:Int)then some (t6)
 else if(200:Int)<(p0.f2.length:Int)then some ((Ca.mk (6:Int) (3:Int) (p0.f2.length:Int)))
 else Ej k p0 k (0:Int)
theorem MD {k:Nat} {p0:A6} {r:Ca} (h:F7 k p0=some r):AM Tryz.prog 7 [(BA p0)] (GW r):=by
 rw[F7.eq_1]at h;refine AM.intro (res:=[.cell 2 32]) Tryz.func7 rfl rfl rfl (Nat.le_of_ble_eq_true rfl) ?_;refine .sr ?_;refine .box rfl 1 rfl (by decide) rfl rfl rfl fun n2=>?_;refine .alloc rfl 2 rfl (by decide) rfl Du B6 fun n3=>?_;refine .nS [1,2] [1,0] ?_;refine .a 5 ?_;obtain⟨t4,et4,h⟩:=ob h;refine .callS [(.fz 3 (p0.f0.map DT))] (.tup [(AA t4.1),(AA t4.2)]) 12 rfl (by decide) VI rfl rfl rfl ⟨rfl,rfl,trivial⟩ (Ox et4) ?_;refine .a 11 ?_;rcases oi h with⟨c5,h⟩|⟨c5,h⟩
 ·refine .a 5 ?_;refine .c (x:=(Lt t4.2 (1:Int) t4.1)) (.build (qs:=[(0,(AA t4.2)),(1,(AA (1:Int))),(2,(AA t4.1))]) rfl ⟨rfl,rfl,rfl,rfl,rfl,rfl,rfl,rfl,rfl,trivial⟩ Tryz.underlying32 rfl Du B6 (.cons rfl rfl rfl rfl (.cast (.fld0 .here) rfl) (.cons rfl rfl rfl rfl (.cast (.fldS (.fld0 .here)) rfl) (.cons rfl rfl rfl rfl (.cast (.fldS (.fldS (.fld0 .here))) rfl) .nil))) rfl) ?_;refine .store 1 rfl rfl rfl rfl rfl rfl (.cast .here rfl) rfl rfl Bj rfl ?_;refine .nS [2] [1] ?_;refine .rK [2] ?_;cases h;exact⟨[(GW (Ca.mk t4.2 (1:Int) t4.1))],⟨⟨_,0,rfl,rfl,E9,Bj⟩,trivial⟩,rfl⟩
 refine .a 6 ?_;obtain⟨t6,et6,h⟩:=ob h;refine .callS [(BA p0)] (GW t6) 21 rfl (by decide) V0 rfl rfl rfl ⟨rfl,rfl,trivial⟩ (Ns et6) ?_;refine .alloc rfl 5 rfl (by decide) rfl Du B6 fun n7=>?_;refine .store 0 rfl rfl rfl rfl rfl rfl (.cast .here rfl) rfl rfl Bj rfl ?_;refine .nS [1,2,5] [1,2,0] ?_;refine .a 6 ?_;rcases oi h with⟨c8,h⟩|⟨c8,h⟩
 ·refine .a 4 ?_;refine .store 1 rfl rfl rfl rfl rfl rfl (.cast .here rfl) rfl rfl Bj rfl ?_;refine .nS [2] [1] ?_;refine .rK [2] ?_;have hr:=Option.some.inj h;subst hr;exact⟨[(GW t6)],⟨⟨_,0,rfl,rfl,E9,Bj⟩,trivial⟩,rfl⟩
 refine .a 1 ?_;refine .sH [1,2] (H':=[(n2,(.mem (BA p0))),(Kv n3 (0:Int))]) (.cons 0 rfl (.cons 0 rfl (.nil _))) ?_;refine .a 8 ?_;rcases oi h with⟨c9,h⟩|⟨c9,h⟩
 ·refine .a 6 ?_;refine .c (x:=(Lt (6:Int) (3:Int) (p0.f2.length:Int))) (.build (qs:=[(0,(AA (6:Int))),(1,(AA (3:Int))),(2,(AA (p0.f2.length:Int)))]) rfl ⟨rfl,rfl,rfl,rfl,rfl,rfl,rfl,rfl,rfl,trivial⟩ Tryz.underlying32 rfl Du B6 (.cons rfl rfl rfl rfl (.cast (.fld0 .here) rfl) (.cons rfl rfl rfl rfl (.cast (.fldS (.fld0 .here)) rfl) (.cons rfl rfl rfl rfl (.cast (.fldS (.fldS (.fld0 .here))) rfl) .nil))) rfl) ?_;refine .store 1 rfl rfl rfl rfl rfl rfl (.cast .here rfl) rfl rfl Bj rfl ?_;refine .nS [2] [1] ?_;refine .rK [2] ?_;cases h;exact⟨[(GW (Ca.mk (6:Int) (3:Int) (p0.f2.length:Int)))],⟨⟨_,0,rfl,rfl,E9,Bj⟩,trivial⟩,rfl⟩
 refine .a 1 ?_;refine .sK [1,2] ?_;refine .seq_mid (fun ρ H=>ρ=[(1,(.ptr n2 0)),(2,(.ptr n3 0))]∧H=[(n2,(.mem (BA p0))),(Kv n3 (0:Int))]∧J0 k p0=some r) ?_ ?_
 ·refine .a 8 ?_;refine .wK [1,2,36,37] ?_;refine .loop (fun kq ρ H=>∃ (x17:Int),ρ=[(1,(.ptr n2 0)),(2,(.ptr n3 0)),(36,(AA (p0.f2.length:Int))),(37,(AA x17))]∧H=[(n2,(.mem (BA p0))),(Kv n3 (0:Int))]∧Ej k p0 kq x17=some r) k ⟨(0:Int),rfl,rfl,h⟩ ?_;rintro kq19 _ _ ⟨x17,rfl,rfl,h⟩
  cases kq19 with
  | zero=>rw[Ej.eq_1]at h;cases h
  | succ kq19=>
  rw[Ej.eq_2]at h;generalize hrec18:Ej k p0 kq19=rec18 at h;refine .a 5 ?_;rcases oi h with⟨c20,h⟩|⟨c20,h⟩
  ·refine .a 13 ?_;obtain⟨t21,et21,h⟩:=ob h;refine .callS [(BA p0),(AA x17)] (AA t21) 42 rfl (by decide) Ux rfl rfl rfl ⟨rfl,rfl,rfl,rfl,trivial⟩ (Ot et21) ?_;refine .a 7 ?_;rcases oi h with⟨c22,h⟩|⟨c22,h⟩
   ·refine .a 5 ?_;refine .c (x:=(Lt t21 (3:Int) x17)) (.build (qs:=[(0,(AA t21)),(1,(AA (3:Int))),(2,(AA x17))]) rfl ⟨rfl,rfl,rfl,rfl,rfl,rfl,rfl,rfl,rfl,trivial⟩ Tryz.underlying32 rfl Du B6 (.cons rfl rfl rfl rfl (.cast (.fld0 .here) rfl) (.cons rfl rfl rfl rfl (.cast (.fldS (.fld0 .here)) rfl) (.cons rfl rfl rfl rfl (.cast (.fldS (.fldS (.fld0 .here))) rfl) .nil))) rfl) ?_;refine .store 1 rfl rfl rfl rfl rfl rfl (.cast .here rfl) rfl rfl Bj rfl ?_;refine .nS [2] [1] ?_;refine .rK [2] ?_;cases h;exact⟨[(GW (Ca.mk t21 (3:Int) x17))],⟨⟨_,0,rfl,rfl,E9,Bj⟩,trivial⟩,rfl⟩
   refine .a 5 ?_;refine .nK [1,2,36,37] ?_;exact⟨kq19,Nat.lt_succ_self _,(AH (x17+(1:Int))),rfl,rfl,by rw[hrec18];exact h⟩
  refine .a 1 ?_;refine .eK [1,2] ?_;exact⟨rfl,rfl,h⟩
 rintro _ _ ⟨rfl,rfl,h⟩;rw[J0.eq_1]at h;refine .a 4 ?_;obtain⟨t10,et10,h⟩:=ob h;refine .callS [(BA p0)] (GW t10) 50 rfl (by decide) Uz rfl rfl rfl ⟨rfl,rfl,trivial⟩ (PD et10) ?_;refine .alloc rfl 8 rfl (by decide) rfl Du B6 fun n11=>?_;refine .store 0 rfl rfl rfl rfl rfl rfl (.cast .here rfl) rfl rfl Bj rfl ?_;refine .nS [1,2,8] [1,2,0] ?_;refine .a 6 ?_;rcases oi h with⟨c12,h⟩|⟨c12,h⟩
 ·refine .a 4 ?_;refine .store 1 rfl rfl rfl rfl rfl rfl (.cast .here rfl) rfl rfl Bj rfl ?_;refine .nS [2] [1] ?_;refine .rK [2] ?_;have hr:=Option.some.inj h;subst hr;exact⟨[(GW t10)],⟨⟨_,0,rfl,rfl,E9,Bj⟩,trivial⟩,rfl⟩
 refine .a 1 ?_;refine .sH [1,2] (H':=[(n2,(.mem (BA p0))),(Kv n3 (0:Int))]) (.cons 0 rfl (.cons 0 rfl (.nil _))) ?_;refine .a 2 ?_;obtain⟨b13,q14,h⟩:=ob h;refine .regM [(2,(.ptr n3 0)),(65,(AB b13))] [(Kv n3 (0:Int))] ?_ ?_
 ·refine .a 4 ?_;rcases oi q14 with⟨c15,q14⟩|⟨c15,q14⟩
  ·refine .a 7 ?_;cases q14;refine .nilE ⟨rfl,rfl⟩ ?_ ?_
   ·exact⟨rfl,rfl,trivial⟩
   exact(.cons 1 rfl (.nil _))
  refine .a 7 ?_;cases q14;refine .nilE ⟨rfl,rfl⟩ ?_ ?_
  ·exact⟨rfl,rfl,trivial⟩
  exact(.cons 1 rfl (.nil _))
 rcases oi h with⟨c16,h⟩|⟨c16,h⟩
 ·refine .a 3 ?_;refine .c (x:=(Lt (11:Int) (5:Int) (0:Int))) (.build (qs:=[(0,(AA (11:Int))),(1,(AA (5:Int)))]) rfl ⟨rfl,rfl,rfl,rfl,rfl,rfl,trivial⟩ Tryz.underlying32 rfl Du B6 (.cons rfl rfl rfl rfl (.cast (.fld0 .here) rfl) (.cons rfl rfl rfl rfl (.cast (.fldS (.fld0 .here)) rfl) .nil)) rfl) ?_;refine .store 0 rfl rfl rfl rfl rfl rfl (.cast .here rfl) rfl rfl Bj rfl ?_;refine .nK [2] ?_;refine .rK [2] ?_;cases h;exact⟨[(GW (Ca.mk (11:Int) (5:Int) (0:Int)))],⟨⟨_,0,rfl,rfl,E9,Bj⟩,trivial⟩,rfl⟩
 refine .a 4 ?_;refine .c (x:=(Lt (0:Int) (0:Int) (0:Int))) (.build (qs:=[]) rfl trivial Tryz.underlying32 rfl Du B6 .nil rfl) ?_;refine .store 0 rfl rfl rfl rfl rfl rfl (.cast .here rfl) rfl rfl Bj rfl ?_;refine .nK [2] ?_;refine .rK [2] ?_;cases h;exact⟨[(GW (Ca.mk (0:Int) (0:Int) (0:Int)))],⟨⟨_,0,rfl,rfl,E9,Bj⟩,trivial⟩,rfl⟩
def F5 (k:Nat):Option Bool:=
 Option.bind (α:=Bool) ((Ul k (A6.mk [(B7.mk (ByteArray.mk #[80,76,85,83]) (0:Int) (ByteArray.mk #[92,43]))] [(ByteArray.mk #[69])] [(Dx.mk (0:Int) (ByteArray.mk #[65,100,100]) [(A7.mk true (0:Int)),(A7.mk false (0:Int)),(A7.mk true (0:Int))] false (-1:Int) [(0:Int),(0:Int)])] [] (0:Int)) (0:Int)).bind fun t9=>
 if t9=(ByteArray.mk #[69,46,65,100,100,32,61,32,69,32,80,76,85,83,32,69])then(F7 k (A6.mk [(B7.mk (ByteArray.mk #[80,76,85,83]) (0:Int) (ByteArray.mk #[92,43]))] [(ByteArray.mk #[69])] [(Dx.mk (0:Int) (ByteArray.mk #[65,100,100]) [(A7.mk true (0:Int)),(A7.mk false (0:Int)),(A7.mk true (0:Int))] false (-1:Int) [(0:Int),(0:Int)])] [] (0:Int))).bind fun t11=>
 some (decide (t11=(Ca.mk (0:Int) (0:Int) (0:Int))))
 else some (false)) fun b7=>
 some (b7)
theorem Pg {k:Nat} {r:Bool} (h:F5 k=some r):AM Tryz.prog 5 [] (AB r):=by
 rw[F5.eq_1]at h;refine AM.intro (res:=[.tmp 0]) Tryz.func5 rfl rfl rfl (Nat.le_of_ble_eq_true rfl) ?_;refine .a 6 ?_;refine .c (x:=(.st [(1,(AI (ByteArray.mk #[80,76,85,83]))),(1,(AA (0:Int))),(1,(AI (ByteArray.mk #[92,43])))])) (.build (qs:=[(0,(AI (ByteArray.mk #[80,76,85,83]))),(2,(AI (ByteArray.mk #[92,43])))]) rfl ⟨rfl,rfl,rfl,rfl,rfl,rfl,trivial⟩ Tryz.underlying53 rfl Ni Je (.cons rfl rfl rfl rfl (.cast (.fld0 .here) rfl) (.cons rfl rfl rfl rfl (.cast (.fldS (.fldS (.fld0 .here))) rfl) .nil)) rfl) ?_;refine .lit (Z:=(.st [(1,(AI ByteArray.empty)),(1,(AA (0:Int))),(1,(AI ByteArray.empty))])) (xs:=(([(B7.mk (ByteArray.mk #[80,76,85,83]) (0:Int) (ByteArray.mk #[92,43]))]:List B7).map DT)) (qs:=[(0,(DT (B7.mk (ByteArray.mk #[80,76,85,83]) (0:Int) (ByteArray.mk #[92,43]))))]) rfl 3 rfl (by decide) rfl ⟨rfl,rfl,rfl,trivial⟩ Tryz.underlying22 K6 Ni Je rfl (by decide) (Aj (z:=3) [(DT (B7.mk (ByteArray.mk #[80,76,85,83]) (0:Int) (ByteArray.mk #[92,43])))] rfl ⟨⟨rfl,rfl⟩,trivial⟩) rfl fun n1=>?_;refine .lit (Z:=(AI ByteArray.empty)) (xs:=(([(ByteArray.mk #[69])]:List ByteArray).map AI)) (qs:=[(0,(AI (ByteArray.mk #[69])))]) rfl 4 rfl (by decide) rfl ⟨rfl,rfl,rfl,trivial⟩ Tryz.underlying23 JZ WK V8 rfl (by decide) (Aj (z:=1) [(AI (ByteArray.mk #[69]))] rfl ⟨⟨rfl,rfl⟩,trivial⟩) rfl fun n2=>?_
 refine .c (x:=(.st [(1,(AB true)),(1,(AA (0:Int)))])) (.build (qs:=[(0,(AB true))]) rfl ⟨rfl,rfl,rfl,trivial⟩ Tryz.underlying55 rfl GZ EU (.cons rfl rfl rfl rfl (.cast (.fld0 .here) rfl) .nil) rfl) ?_;refine .c (x:=(.st [(1,(AB false)),(1,(AA (0:Int)))])) (.build (qs:=[]) rfl trivial Tryz.underlying55 rfl GZ EU .nil rfl) ?_;refine .c (x:=(.st [(1,(AB true)),(1,(AA (0:Int)))])) (.build (qs:=[(0,(AB true))]) rfl ⟨rfl,rfl,rfl,trivial⟩ Tryz.underlying55 rfl GZ EU (.cons rfl rfl rfl rfl (.cast (.fld0 .here) rfl) .nil) rfl) ?_;refine .lit (Z:=(.st [(1,(AB false)),(1,(AA (0:Int)))])) (xs:=(([(A7.mk true (0:Int)),(A7.mk false (0:Int)),(A7.mk true (0:Int))]:List A7).map Ea)) (qs:=[(0,(Ea (A7.mk true (0:Int)))),(1,(Ea (A7.mk false (0:Int)))),(2,(Ea (A7.mk true (0:Int))))]) rfl 8 rfl (by decide) rfl ⟨rfl,rfl,rfl,rfl,rfl,rfl,rfl,rfl,rfl,trivial⟩ Tryz.underlying56 Mb GZ EU rfl (by decide) (Aj (z:=2) [(Ea (A7.mk true (0:Int))),(Ea (A7.mk false (0:Int))),(Ea (A7.mk true (0:Int)))] rfl ⟨⟨rfl,rfl⟩,⟨rfl,rfl⟩,⟨rfl,rfl⟩,trivial⟩) rfl fun n3=>?_;refine .lit (Z:=(AA (0:Int))) (xs:=(([(0:Int),(0:Int)]:List Int).map AA)) (qs:=[(0,(AA (0:Int))),(1,(AA (0:Int)))]) rfl 9 rfl (by decide) rfl ⟨rfl,rfl,rfl,rfl,rfl,rfl,trivial⟩ Tryz.underlying40 DZ SP ND rfl (by decide) (Aj (z:=1) [(AA (0:Int)),(AA (0:Int))] rfl ⟨⟨rfl,rfl⟩,⟨rfl,rfl⟩,trivial⟩) rfl fun n4=>?_;refine .freezeS 1 [(8,(.fz 2 (([(A7.mk true (0:Int)),(A7.mk false (0:Int)),(A7.mk true (0:Int))]:List A7).map Ea)))] rfl ⟨Ad rfl,trivial⟩ ?_
 refine .freezeS 0 [(9,(Gy ([(0:Int),(0:Int)]:List Int)))] rfl ⟨Ad rfl,trivial⟩ ?_;refine .c (x:=(.st [(1,(AA (0:Int))),(1,(AI (ByteArray.mk #[65,100,100]))),(1,(.fz 2 (([(A7.mk true (0:Int)),(A7.mk false (0:Int)),(A7.mk true (0:Int))]:List A7).map Ea))),(1,(AB false)),(1,(AA (-1:Int))),(1,(Gy ([(0:Int),(0:Int)]:List Int)))])) (.build (qs:=[(1,(AI (ByteArray.mk #[65,100,100]))),(4,(AA (-1:Int))),(2,(.fz 2 (([(A7.mk true (0:Int)),(A7.mk false (0:Int)),(A7.mk true (0:Int))]:List A7).map Ea))),(5,(Gy ([(0:Int),(0:Int)]:List Int)))]) rfl ⟨rfl,rfl,rfl,rfl,rfl,rfl,rfl,rfl,rfl,rfl,rfl,rfl,trivial⟩ Tryz.underlying58 rfl KB GS (.cons rfl rfl rfl rfl (.cast (.fldS (.fld0 .here)) rfl) (.cons rfl rfl rfl rfl (.cast (.fldS (.fldS (.fldS (.fldS (.fld0 .here))))) rfl) (.cons rfl rfl rfl rfl (.cast (.fldS (.fldS (.fld0 .here))) rfl) (.cons rfl rfl rfl rfl (.cast (.fldS (.fldS (.fldS (.fldS (.fldS (.fld0 .here)))))) rfl) .nil)))) rfl) ?_
 refine .lit (Z:=(.st [(1,(AA (0:Int))),(1,(AI ByteArray.empty)),(1,(.fl (.slice none 0 0))),(1,(AB false)),(1,(AA (0:Int))),(1,(.fl (.slice none 0 0)))])) (xs:=(([(Dx.mk (0:Int) (ByteArray.mk #[65,100,100]) [(A7.mk true (0:Int)),(A7.mk false (0:Int)),(A7.mk true (0:Int))] false (-1:Int) [(0:Int),(0:Int)])]:List Dx).map Di)) (qs:=[(0,(Di (Dx.mk (0:Int) (ByteArray.mk #[65,100,100]) [(A7.mk true (0:Int)),(A7.mk false (0:Int)),(A7.mk true (0:Int))] false (-1:Int) [(0:Int),(0:Int)])))]) rfl 11 rfl (by decide) rfl ⟨rfl,rfl,rfl,trivial⟩ Tryz.underlying24 HQ KB GS rfl (by decide) (Aj (z:=6) [(Di (Dx.mk (0:Int) (ByteArray.mk #[65,100,100]) [(A7.mk true (0:Int)),(A7.mk false (0:Int)),(A7.mk true (0:Int))] false (-1:Int) [(0:Int),(0:Int)]))] rfl ⟨⟨rfl,rfl⟩,trivial⟩) rfl fun n5=>?_;refine .freezeS 2 [(3,(.fz 3 (([(B7.mk (ByteArray.mk #[80,76,85,83]) (0:Int) (ByteArray.mk #[92,43]))]:List B7).map DT)))] rfl ⟨Ad rfl,trivial⟩ ?_;refine .freezeS 1 [(4,(.fz 1 (([(ByteArray.mk #[69])]:List ByteArray).map AI)))] rfl ⟨Ad rfl,trivial⟩ ?_;refine .freezeS 0 [(11,(.fz 6 (([(Dx.mk (0:Int) (ByteArray.mk #[65,100,100]) [(A7.mk true (0:Int)),(A7.mk false (0:Int)),(A7.mk true (0:Int))] false (-1:Int) [(0:Int),(0:Int)])]:List Dx).map Di)))] rfl ⟨Ad rfl,trivial⟩ ?_
 refine .c (x:=.st [(1,(.fz 3 (([(B7.mk (ByteArray.mk #[80,76,85,83]) (0:Int) (ByteArray.mk #[92,43]))]:List B7).map DT))),(1,(.fz 1 (([(ByteArray.mk #[69])]:List ByteArray).map AI))),(1,(.fz 6 (([(Dx.mk (0:Int) (ByteArray.mk #[65,100,100]) [(A7.mk true (0:Int)),(A7.mk false (0:Int)),(A7.mk true (0:Int))] false (-1:Int) [(0:Int),(0:Int)])]:List Dx).map Di))),(1,(.fl (.slice none 0 0))),(1,(AA (0:Int)))]) (.build (qs:=[(0,(.fz 3 (([(B7.mk (ByteArray.mk #[80,76,85,83]) (0:Int) (ByteArray.mk #[92,43]))]:List B7).map DT))),(1,(.fz 1 (([(ByteArray.mk #[69])]:List ByteArray).map AI))),(2,(.fz 6 (([(Dx.mk (0:Int) (ByteArray.mk #[65,100,100]) [(A7.mk true (0:Int)),(A7.mk false (0:Int)),(A7.mk true (0:Int))] false (-1:Int) [(0:Int),(0:Int)])]:List Dx).map Di)))]) rfl ⟨rfl,rfl,rfl,rfl,rfl,rfl,rfl,rfl,rfl,trivial⟩ Tryz.underlying27 rfl T5 RB (.cons rfl rfl rfl rfl (.cast (.fld0 .here) rfl) (.cons rfl rfl rfl rfl (.cast (.fldS (.fld0 .here)) rfl) (.cons rfl rfl rfl rfl (.cast (.fldS (.fldS (.fld0 .here))) rfl) .nil))) rfl) ?_;refine .coeC 12 (y':=(BA (A6.mk [(B7.mk (ByteArray.mk #[80,76,85,83]) (0:Int) (ByteArray.mk #[92,43]))] [(ByteArray.mk #[69])] [(Dx.mk (0:Int) (ByteArray.mk #[65,100,100]) [(A7.mk true (0:Int)),(A7.mk false (0:Int)),(A7.mk true (0:Int))] false (-1:Int) [(0:Int),(0:Int)])] [] (0:Int)))) rfl (EW.st EW.refl (EW.st EW.refl (EW.st EW.refl (EW.st EW.nil (EW.st EW.refl EW.refl))))) ?_;refine .alloc rfl 1 rfl (by decide) rfl T5 RB fun n6=>?_
 refine .store 0 rfl rfl rfl rfl rfl rfl (.cast .here rfl) rfl rfl SB rfl ?_;refine .a 2 ?_;obtain⟨b7,q8,h⟩:=ob h;refine .regM [(0,(AB b7))] [] ?_ ?_
 ·refine .a 1 ?_;obtain⟨t9,et9,q8⟩:=ob q8;refine .callS [(BA (A6.mk [(B7.mk (ByteArray.mk #[80,76,85,83]) (0:Int) (ByteArray.mk #[92,43]))] [(ByteArray.mk #[69])] [(Dx.mk (0:Int) (ByteArray.mk #[65,100,100]) [(A7.mk true (0:Int)),(A7.mk false (0:Int)),(A7.mk true (0:Int))] false (-1:Int) [(0:Int),(0:Int)])] [] (0:Int))),(AA (0:Int))] (AI t9) 14 rfl (by decide) VA rfl rfl rfl ⟨rfl,rfl,rfl,rfl,trivial⟩ (OP et9) ?_;refine .a 2 ?_;rcases oi q8 with⟨c10,q8⟩|⟨c10,q8⟩
  ·refine .a 1 ?_;obtain⟨t11,et11,q8⟩:=ob q8;refine .callG 3 true 16 [(BA (A6.mk [(B7.mk (ByteArray.mk #[80,76,85,83]) (0:Int) (ByteArray.mk #[92,43]))] [(ByteArray.mk #[69])] [(Dx.mk (0:Int) (ByteArray.mk #[65,100,100]) [(A7.mk true (0:Int)),(A7.mk false (0:Int)),(A7.mk true (0:Int))] false (-1:Int) [(0:Int),(0:Int)])] [] (0:Int)))] (GW t11) 18 rfl (by decide) WB rfl rfl (bD (decide_eq_true c10)) rfl rfl ⟨rfl,rfl,trivial⟩ (MD et11) ?_;refine .cG (x:=.st [(1,(AA (0:Int))),(1,(AA (0:Int))),(1,(AA (0:Int)))]) rfl rfl (bD (decide_eq_true c10)) (.build (qs:=[]) rfl trivial Tryz.underlying32 rfl Du B6 .nil rfl) ?_;refine .cG (x:=AB (decide (t11=(Ca.mk (0:Int) (0:Int) (0:Int))))) rfl rfl (bD (decide_eq_true c10)) (.eqS rfl rfl rfl Vt (TQ t11 (Ca.mk (0:Int) (0:Int) (0:Int))) (by decide)) ?_;refine .a 2 ?_;cases q8;refine .nilE ⟨rfl,rfl⟩ ?_ ?_
   ·exact⟨rfl,trivial⟩
   exact(.nil _)
  refine .a 6 ?_;cases q8;refine .nilE ⟨rfl,rfl⟩ ?_ ?_
  ·exact⟨rfl,trivial⟩
  exact(.nil _)
 refine .rK [0] ?_;have hr:=Option.some.inj h;subst hr;exact⟨[(AB b7)],⟨rfl,rfl,trivial⟩,rfl⟩
def LM (k:Nat):Option Bool:=
 some (true)
def Dk (k:Nat) (p0:(List B7)):Nat→Int→Option Bool
 | 0,_=>none
 | j+1,x3=>
   if x3<(p0.length:Int)then Option.bind (α:=Bool) (if 0≤x3∧x3<(p0.length:Int)then if(40:Int)<(((AC p0 x3).f2).size:Int)then some (true)
   else if 0≤x3∧x3<(p0.length:Int)then some (decide ((100:Int)<(((AC p0 x3).f0).size:Int)))
   else none
   else none) fun b7=>
   if b7=true then some (false)
   else(Dk k p0 j) (AH (x3+(1:Int)))
   else LM k
def R5 (k:Nat) (p0:(List B7)):Option Bool:=
 if(20:Int)<(p0.length:Int)then some (false)
 else Dk k p0 k (0:Int)
theorem M2 {k:Nat} {p0:(List B7)} {r:Bool} (h:R5 k p0=some r):AM Tryz.prog 11 [(.fz 3 (p0.map DT))] (AB r):=by
 rw[R5.eq_1]at h;refine AM.intro (res:=[.tmp 2]) Tryz.func11 rfl rfl rfl (Nat.le_of_ble_eq_true rfl) ?_;refine .a 11 ?_;rcases oi h with⟨c2,h⟩|⟨c2,h⟩
 ·refine .a 4 ?_;refine .nK [2] ?_;refine .rK [2] ?_;have hr:=Option.some.inj h;subst hr;exact⟨[(AB false)],⟨rfl,rfl,trivial⟩,rfl⟩
 refine .a 1 ?_;refine .sK [0] ?_;refine .seq_mid (fun ρ H=>ρ=[]∧H=[]∧LM k=some r) ?_ ?_
 ·refine .a 5 ?_;refine .wK [0,3] ?_;refine .loop (fun kq ρ H=>∃ (x3:Int),ρ=[(0,(.fz 3 (p0.map DT))),(3,(AA x3))]∧H=[]∧Dk k p0 kq x3=some r) k ⟨(0:Int),rfl,rfl,h⟩ ?_;rintro kq5 _ _ ⟨x3,rfl,rfl,h⟩
  cases kq5 with
  | zero=>rw[Dk.eq_1]at h;cases h
  | succ kq5=>
  rw[Dk.eq_2]at h;generalize hrec4:Dk k p0 kq5=rec4 at h;refine .a 8 ?_;rcases oi h with⟨c6,h⟩|⟨c6,h⟩
  ·refine .a 5 ?_;obtain⟨b7,q8,h⟩:=ob h;refine .regM [(0,(.fz 3 (p0.map DT))),(3,(AA x3)),(28,(AB b7))] [] ?_ ?_
   ·refine .a 2 ?_;obtain⟨g9,q8⟩:=AD q8;refine .a 1 ?_;refine .c (.fldRp rfl rfl Tryz.underlying53 rfl JZ (.cast (.fldS (.fldS (.fld0 .here))) rfl)) ?_;refine .a 4 ?_;rcases oi q8 with⟨c10,q8⟩|⟨c10,q8⟩
    ·refine .a 8 ?_;cases q8;refine .nilE ⟨rfl,rfl⟩ ?_ ?_
     ·exact⟨rfl,rfl,rfl,trivial⟩
     exact(.refl _)
    refine .a 2 ?_;obtain⟨g11,q8⟩:=AD q8;refine .a 1 ?_;refine .cG rfl rfl (bD (decide_eq_false c10)) (.fldRp rfl rfl Tryz.underlying53 rfl JZ (.cast (.fld0 .here) rfl)) ?_;refine .a 4 ?_;cases q8;refine .nilE ⟨rfl,rfl⟩ ?_ ?_
    ·exact⟨rfl,rfl,rfl,trivial⟩
    exact(.refl _)
   rcases oi h with⟨c12,h⟩|⟨c12,h⟩
   ·refine .a 4 ?_;refine .nK [2] ?_;refine .rK [2] ?_;have hr:=Option.some.inj h;subst hr;exact⟨[(AB false)],⟨rfl,rfl,trivial⟩,rfl⟩
   refine .a 6 ?_;refine .nK [0,3] ?_;exact⟨kq5,Nat.lt_succ_self _,(AH (x3+(1:Int))),rfl,rfl,by rw[hrec4];exact h⟩
  refine .a 1 ?_;refine .eK [] ?_;exact⟨rfl,rfl,h⟩
 rintro _ _ ⟨rfl,rfl,h⟩;rw[LM.eq_1]at h;refine .a 3 ?_;refine .nK [2] ?_;refine .rK [2] ?_;have hr:=Option.some.inj h;subst hr;exact⟨[(AB true)],⟨rfl,rfl,trivial⟩,rfl⟩
def Od (k:Nat):Option Bool:=
 some (true)
def FY (k:Nat) (p0:A6):Nat→Int→Option Bool
 | 0,_=>none
 | j+1,x10=>
   if x10<(p0.f3.length:Int)then if 0≤x10∧x10<(p0.f3.length:Int)then if(20:Int)<(((AC p0.f3 x10).f1).length:Int)then some (false)
   else(FY k p0 j) (AH (x10+(1:Int)))
   else none
   else Od k
def Li (k:Nat) (p0:A6):Option Bool:=
 FY k p0 k (0:Int)
def Fq (k:Nat) (p0:A6):Nat→Int→Option Bool
 | 0,_=>none
 | j+1,x16=>
   if x16<(p0.f2.length:Int)then Option.bind (α:=Bool) (if 0≤x16∧x16<(p0.f2.length:Int)then if(20:Int)<(((AC p0.f2 x16).f2).length:Int)then some (true)
   else if 0≤x16∧x16<(p0.f2.length:Int)then if(20:Int)<(((AC p0.f2 x16).f5).length:Int)then some (true)
   else if 0≤x16∧x16<(p0.f2.length:Int)then some (decide ((100:Int)<(((AC p0.f2 x16).f1).size:Int)))
   else none
   else none
   else none) fun b20=>
   if b20=true then some (false)
   else(Fq k p0 j) (AH (x16+(1:Int)))
   else Li k p0
def Lm (k:Nat) (p0:A6):Option Bool:=
 Fq k p0 k (0:Int)
def Fo (k:Nat) (p0:A6):Nat→Int→Option Bool
 | 0,_=>none
 | j+1,x28=>
   if x28<(p0.f1.length:Int)then if 0≤x28∧x28<(p0.f1.length:Int)then if(100:Int)<((AC p0.f1 x28).size:Int)then some (false)
   else(Fo k p0 j) (AH (x28+(1:Int)))
   else none
   else Lm k p0
def F6 (k:Nat) (p0:A6):Option Bool:=
 Option.bind (α:=Bool) ((R5 k p0.f0).bind fun t5=>
 if(!t5)=true then some (true)
 else if(20:Int)<(p0.f1.length:Int)then some (true)
 else if(40:Int)<(p0.f2.length:Int)then some (true)
 else some (decide ((20:Int)<(p0.f3.length:Int)))) fun b3=>
 if b3=true then some (false)
 else Fo k p0 k (0:Int)
theorem Pu {k:Nat} {p0:A6} {r:Bool} (h:F6 k p0=some r):AM Tryz.prog 6 [(BA p0)] (AB r):=by
 rw[F6.eq_1]at h;refine AM.intro (res:=[.tmp 2]) Tryz.func6 rfl rfl rfl (Nat.le_of_ble_eq_true rfl) ?_;refine .sr ?_;refine .box rfl 1 rfl (by decide) rfl rfl rfl fun n2=>?_;refine .a 4 ?_;obtain⟨b3,q4,h⟩:=ob h;refine .regM [(1,(.ptr n2 0)),(27,(AB b3))] [(n2,(.mem (BA p0)))] ?_ ?_
 ·refine .a 2 ?_;obtain⟨t5,et5,q4⟩:=ob q4;refine .callS [(.fz 3 (p0.f0.map DT))] (AB t5) 8 rfl (by decide) V5 rfl rfl rfl ⟨rfl,rfl,trivial⟩ (M2 et5) ?_;refine .a 2 ?_;rcases oi q4 with⟨c6,q4⟩|⟨c6,q4⟩
  ·refine .a 17 ?_;cases q4;refine .nilE ⟨rfl,rfl⟩ ?_ ?_
   ·exact⟨rfl,rfl,trivial⟩
   exact(.refl _)
  refine .a 6 ?_;rcases oi q4 with⟨c7,q4⟩|⟨c7,q4⟩
  ·refine .a 11 ?_;cases q4;refine .nilE ⟨rfl,rfl⟩ ?_ ?_
   ·exact⟨rfl,rfl,trivial⟩
   exact(.refl _)
  refine .a 6 ?_;rcases oi q4 with⟨c8,q4⟩|⟨c8,q4⟩
  ·refine .a 5 ?_;cases q4;refine .nilE ⟨rfl,rfl⟩ ?_ ?_
   ·exact⟨rfl,rfl,trivial⟩
   exact(.refl _)
  refine .a 5 ?_;cases q4;refine .nilE ⟨rfl,rfl⟩ ?_ ?_
  ·exact⟨rfl,rfl,trivial⟩
  exact(.refl _)
 rcases oi h with⟨c9,h⟩|⟨c9,h⟩
 ·refine .a 4 ?_;refine .nS [2] [] ?_;refine .rK [2] ?_;have hr:=Option.some.inj h;subst hr;exact⟨[(AB false)],⟨rfl,rfl,trivial⟩,rfl⟩
 refine .a 1 ?_;refine .sK [1] ?_;refine .seq_mid (fun ρ H=>ρ=[(1,(.ptr n2 0))]∧H=[(n2,(.mem (BA p0)))]∧Lm k p0=some r) ?_ ?_
 ·refine .a 5 ?_;refine .wK [1,3] ?_;refine .loop (fun kq ρ H=>∃ (x28:Int),ρ=[(1,(.ptr n2 0)),(3,(AA x28))]∧H=[(n2,(.mem (BA p0)))]∧Fo k p0 kq x28=some r) k ⟨(0:Int),rfl,rfl,h⟩ ?_;rintro kq30 _ _ ⟨x28,rfl,rfl,h⟩
  cases kq30 with
  | zero=>rw[Fo.eq_1]at h;cases h
  | succ kq30=>
  rw[Fo.eq_2]at h;generalize hrec29:Fo k p0 kq30=rec29 at h;refine .a 9 ?_;rcases oi h with⟨c31,h⟩|⟨c31,h⟩
  ·refine .a 9 ?_;obtain⟨g32,h⟩:=AD h;refine .a 5 ?_;rcases oi h with⟨c33,h⟩|⟨c33,h⟩
   ·refine .a 4 ?_;refine .nS [2] [] ?_;refine .rK [2] ?_;have hr:=Option.some.inj h;subst hr;exact⟨[(AB false)],⟨rfl,rfl,trivial⟩,rfl⟩
   refine .a 6 ?_;refine .nK [1,3] ?_;exact⟨kq30,Nat.lt_succ_self _,(AH (x28+(1:Int))),rfl,rfl,by rw[hrec29];exact h⟩
  refine .a 1 ?_;refine .eK [1] ?_;exact⟨rfl,rfl,h⟩
 rintro _ _ ⟨rfl,rfl,h⟩;rw[Lm.eq_1]at h;refine .seq_mid (fun ρ H=>ρ=[(1,(.ptr n2 0))]∧H=[(n2,(.mem (BA p0)))]∧Li k p0=some r) ?_ ?_
 ·refine .a 5 ?_;refine .wK [1,4] ?_;refine .loop (fun kq ρ H=>∃ (x16:Int),ρ=[(1,(.ptr n2 0)),(4,(AA x16))]∧H=[(n2,(.mem (BA p0)))]∧Fq k p0 kq x16=some r) k ⟨(0:Int),rfl,rfl,h⟩ ?_;rintro kq18 _ _ ⟨x16,rfl,rfl,h⟩
  cases kq18 with
  | zero=>rw[Fq.eq_1]at h;cases h
  | succ kq18=>
  rw[Fq.eq_2]at h;generalize hrec17:Fq k p0 kq18=rec17 at h;refine .a 9 ?_;rcases oi h with⟨c19,h⟩|⟨c19,h⟩
  ·refine .a 5 ?_;obtain⟨b20,q21,h⟩:=ob h;refine .regM [(1,(.ptr n2 0)),(4,(AA x16)),(76,(AB b20))] [(n2,(.mem (BA p0)))] ?_ ?_
   ·refine .a 3 ?_;obtain⟨g22,q21⟩:=AD q21;refine .a 1 ?_;refine .c (.fldRp rfl rfl Tryz.underlying58 rfl RH (.cast (.fldS (.fldS (.fld0 .here))) rfl)) ?_;refine .a 4 ?_;rcases oi q21 with⟨c23,q21⟩|⟨c23,q21⟩
    ·refine .a 19 ?_;cases q21;refine .nilE ⟨rfl,rfl⟩ ?_ ?_
     ·exact⟨rfl,rfl,rfl,trivial⟩
     exact(.refl _)
    refine .a 3 ?_;obtain⟨g24,q21⟩:=AD q21;refine .a 1 ?_;refine .cG rfl rfl (bD (decide_eq_false c23)) (.fldRp rfl rfl Tryz.underlying58 rfl G3 (.cast (.fldS (.fldS (.fldS (.fldS (.fldS (.fld0 .here)))))) rfl)) ?_;refine .a 5 ?_;rcases oi q21 with⟨c25,q21⟩|⟨c25,q21⟩
    ·refine .a 9 ?_;cases q21;refine .nilE ⟨rfl,rfl⟩ ?_ ?_
     ·exact⟨rfl,rfl,rfl,trivial⟩
     exact(.refl _)
    refine .a 3 ?_;obtain⟨g26,q21⟩:=AD q21;refine .a 1 ?_;refine .cG rfl rfl (bD (decide_eq_false c25)) (.fldRp rfl rfl Tryz.underlying58 rfl JZ (.cast (.fldS (.fld0 .here)) rfl)) ?_;refine .a 4 ?_;cases q21;refine .nilE ⟨rfl,rfl⟩ ?_ ?_
    ·exact⟨rfl,rfl,rfl,trivial⟩
    exact(.refl _)
   rcases oi h with⟨c27,h⟩|⟨c27,h⟩
   ·refine .a 4 ?_;refine .nS [2] [] ?_;refine .rK [2] ?_;have hr:=Option.some.inj h;subst hr;exact⟨[(AB false)],⟨rfl,rfl,trivial⟩,rfl⟩
   refine .a 6 ?_;refine .nK [1,4] ?_;exact⟨kq18,Nat.lt_succ_self _,(AH (x16+(1:Int))),rfl,rfl,by rw[hrec17];exact h⟩
  refine .a 1 ?_;refine .eK [1] ?_;exact⟨rfl,rfl,h⟩
 rintro _ _ ⟨rfl,rfl,h⟩;rw[Li.eq_1]at h;refine .seq_mid (fun ρ H=>ρ=[]∧H=[]∧Od k=some r) ?_ ?_
 ·refine .a 5 ?_;refine .wK [1,5] ?_;refine .loop (fun kq ρ H=>∃ (x10:Int),ρ=[(1,(.ptr n2 0)),(5,(AA x10))]∧H=[(n2,(.mem (BA p0)))]∧FY k p0 kq x10=some r) k ⟨(0:Int),rfl,rfl,h⟩ ?_;rintro kq12 _ _ ⟨x10,rfl,rfl,h⟩
  cases kq12 with
  | zero=>rw[FY.eq_1]at h;cases h
  | succ kq12=>
  rw[FY.eq_2]at h;generalize hrec11:FY k p0 kq12=rec11 at h;refine .a 9 ?_;rcases oi h with⟨c13,h⟩|⟨c13,h⟩
  ·refine .a 9 ?_;obtain⟨g14,h⟩:=AD h;refine .a 1 ?_;refine .c (.fldRp rfl rfl Tryz.underlying61 rfl G3 (.cast (.fldS (.fld0 .here)) rfl)) ?_;refine .a 4 ?_;rcases oi h with⟨c15,h⟩|⟨c15,h⟩
   ·refine .a 4 ?_;refine .nS [2] [] ?_;refine .rK [2] ?_;have hr:=Option.some.inj h;subst hr;exact⟨[(AB false)],⟨rfl,rfl,trivial⟩,rfl⟩
   refine .a 6 ?_;refine .nK [1,5] ?_;exact⟨kq12,Nat.lt_succ_self _,(AH (x10+(1:Int))),rfl,rfl,by rw[hrec11];exact h⟩
  refine .a 1 ?_;refine .eH [] (H':=[]) (.nil _) ?_;exact⟨rfl,rfl,h⟩
 rintro _ _ ⟨rfl,rfl,h⟩;rw[Od.eq_1]at h;refine .a 3 ?_;refine .nK [2] ?_;refine .rK [2] ?_;have hr:=Option.some.inj h;subst hr;exact⟨[(AB true)],⟨rfl,rfl,trivial⟩,rfl⟩
def JN (k:Nat):Option Bool:=
 some (false)
def Eq (k:Nat) (p0:ByteArray) (p1:Int):Nat→Int→Option Bool
 | 0,_=>none
 | j+1,x3=>
   if x3<(p0.size:Int)then if 0≤x3∧x3<(p0.size:Int)then if(AF p0 x3)=p1 then some (true)
   else(Eq k p0 p1 j) (AH (x3+(1:Int)))
   else none
   else JN k
def Mh (k:Nat) (p0:ByteArray) (p1:Int):Option Bool:=
 Eq k p0 p1 k (0:Int)
theorem E6 {k:Nat} {p0:ByteArray} {p1:Int} {r:Bool} (h:Mh k p0 p1=some r):AM Tryz.prog 110 [(AI p0),(AY p1)] (AB r):=by
 rw[Mh.eq_1]at h;refine AM.intro (res:=[.tmp 4]) Tryz.func110 rfl rfl rfl (Nat.le_of_ble_eq_true rfl) ?_;refine .a 3 ?_;refine .nK [0,1] ?_;refine .seq_mid (fun ρ H=>ρ=[]∧H=[]∧JN k=some r) ?_ ?_
 ·refine .a 5 ?_;refine .wK [0,1,5] ?_;refine .loop (fun kq ρ H=>∃ (x3:Int),ρ=[(0,(AI p0)),(1,(AY p1)),(5,(AA x3))]∧H=[]∧Eq k p0 p1 kq x3=some r) k ⟨(0:Int),rfl,rfl,h⟩ ?_;rintro kq5 _ _ ⟨x3,rfl,rfl,h⟩
  cases kq5 with
  | zero=>rw[Eq.eq_1]at h;cases h
  | succ kq5=>
  rw[Eq.eq_2]at h;generalize hrec4:Eq k p0 p1 kq5=rec4 at h;refine .a 8 ?_;rcases oi h with⟨c6,h⟩|⟨c6,h⟩
  ·refine .a 8 ?_;obtain⟨g7,h⟩:=AD h;refine .a 4 ?_;rcases oi h with⟨c8,h⟩|⟨c8,h⟩
   ·refine .a 4 ?_;refine .nK [4] ?_;refine .rK [4] ?_;have hr:=Option.some.inj h;subst hr;exact⟨[(AB true)],⟨rfl,rfl,trivial⟩,rfl⟩
   refine .a 6 ?_;refine .nK [0,1,5] ?_;exact⟨kq5,Nat.lt_succ_self _,(AH (x3+(1:Int))),rfl,rfl,by rw[hrec4];exact h⟩
  refine .a 1 ?_;refine .eK [] ?_;exact⟨rfl,rfl,h⟩
 rintro _ _ ⟨rfl,rfl,h⟩;rw[JN.eq_1]at h;refine .a 3 ?_;refine .nK [4] ?_;refine .rK [4] ?_;have hr:=Option.some.inj h;subst hr;exact⟨[(AB false)],⟨rfl,rfl,trivial⟩,rfl⟩
def PN (k:Nat) (p0:Int):Option Bool:=
 (Mh k (ByteArray.mk #[48,49,50,51,52,53,54,55,56,57,97,98,99,100,101,102,103,104,105,106,107,108,109,110,111,112,113,114,115,116,117,118,119,120,121,122,65,66,67,68,69,70,71,72,73,74,75,76,77,78,79,80,81,82,83,84,85,86,87,88,89,90]) p0).bind fun t2=>
 some (t2)
theorem H5 {k:Nat} {p0:Int} {r:Bool} (h:PN k p0=some r):AM Tryz.prog 111 [(AY p0)] (AB r):=by
 rw[PN.eq_1]at h;refine AM.intro (res:=[.tmp 2]) Tryz.func111 rfl rfl rfl (Nat.le_of_ble_eq_true rfl) ?_;refine .a 7 ?_;obtain⟨t2,et2,h⟩:=ob h;refine .callS [(AI (ByteArray.mk #[48,49,50,51,52,53,54,55,56,57,97,98,99,100,101,102,103,104,105,106,107,108,109,110,111,112,113,114,115,116,117,118,119,120,121,122,65,66,67,68,69,70,71,72,73,74,75,76,77,78,79,80,81,82,83,84,85,86,87,88,89,90])),(AY p0)] (AB t2) 4 rfl (by decide) L0 rfl rfl rfl ⟨rfl,rfl,rfl,rfl,trivial⟩ (E6 et2) ?_;refine .a 1 ?_;refine .nK [2] ?_;refine .rK [2] ?_;have hr:=Option.some.inj h;subst hr;exact⟨[(AB t2)],⟨rfl,rfl,trivial⟩,rfl⟩
def Sj (k:Nat) (p0:Int):Option Int:=
 (Mh k (ByteArray.mk #[32,9,10,13]) p0).bind fun t2=>
 if t2=true then some ((1:Int))
 else(Mh k (ByteArray.mk #[48,49,50,51,52,53,54,55,56,57]) p0).bind fun t4=>
 if t4=true then some ((2:Int))
 else Option.bind (α:=Bool) ((PN k p0).bind fun t8=>
 if t8=true then some (true)
 else some (decide (p0=(95:Int)))) fun b6=>
 if b6=true then some ((3:Int))
 else Option.bind (α:=Bool) (if(32:Int)<p0 then some (decide (p0<(127:Int)))
 else some (false)) fun b11=>
 if b11=true then some ((4:Int))
 else some ((0:Int))
theorem NY {k:Nat} {p0:Int} {r:Int} (h:Sj k p0=some r):AM Tryz.prog 83 [(AY p0)] (AA r):=by
 rw[Sj.eq_1]at h;refine AM.intro (res:=[.tmp 2]) Tryz.func83 rfl rfl rfl (Nat.le_of_ble_eq_true rfl) ?_;refine .a 9 ?_;obtain⟨t2,et2,h⟩:=ob h;refine .callS [(AI (ByteArray.mk #[32,9,10,13])),(AY p0)] (AB t2) 5 rfl (by decide) L0 rfl rfl rfl ⟨rfl,rfl,rfl,rfl,trivial⟩ (E6 et2) ?_;refine .a 2 ?_;rcases oi h with⟨c3,h⟩|⟨c3,h⟩
 ·refine .a 4 ?_;refine .nK [2] ?_;refine .rK [2] ?_;cases h;exact⟨[(AA (1:Int))],⟨rfl,rfl,trivial⟩,rfl⟩
 refine .a 4 ?_;obtain⟨t4,et4,h⟩:=ob h;refine .callS [(AI (ByteArray.mk #[48,49,50,51,52,53,54,55,56,57])),(AY p0)] (AB t4) 8 rfl (by decide) L0 rfl rfl rfl ⟨rfl,rfl,rfl,rfl,trivial⟩ (E6 et4) ?_;refine .a 2 ?_;rcases oi h with⟨c5,h⟩|⟨c5,h⟩
 ·refine .a 4 ?_;refine .nK [2] ?_;refine .rK [2] ?_;cases h;exact⟨[(AA (2:Int))],⟨rfl,rfl,trivial⟩,rfl⟩
 refine .a 2 ?_;obtain⟨b6,q7,h⟩:=ob h;refine .regM [(0,(AY p0)),(9,(AB b6))] [] ?_ ?_
 ·refine .a 1 ?_;obtain⟨t8,et8,q7⟩:=ob q7;refine .callS [(AY p0)] (AB t8) 11 rfl (by decide) Q4 rfl rfl rfl ⟨rfl,rfl,trivial⟩ (H5 et8) ?_;refine .a 1 ?_;rcases oi q7 with⟨c9,q7⟩|⟨c9,q7⟩
  ·refine .a 4 ?_;cases q7;refine .nilE ⟨rfl,rfl⟩ ?_ ?_
   ·exact⟨rfl,rfl,trivial⟩
   exact(.refl _)
  refine .a 4 ?_;cases q7;refine .nilE ⟨rfl,rfl⟩ ?_ ?_
  ·exact⟨rfl,rfl,trivial⟩
  exact(.refl _)
 rcases oi h with⟨c10,h⟩|⟨c10,h⟩
 ·refine .a 4 ?_;refine .nK [2] ?_;refine .rK [2] ?_;cases h;exact⟨[(AA (3:Int))],⟨rfl,rfl,trivial⟩,rfl⟩
 refine .a 2 ?_;obtain⟨b11,q12,h⟩:=ob h;refine .regM [(16,(AB b11))] [] ?_ ?_
 ·refine .a 3 ?_;rcases oi q12 with⟨c13,q12⟩|⟨c13,q12⟩
  ·refine .a 4 ?_;cases q12;refine .nilE ⟨rfl,rfl⟩ ?_ ?_
   ·exact⟨rfl,trivial⟩
   exact(.refl _)
  refine .a 4 ?_;cases q12;refine .nilE ⟨rfl,rfl⟩ ?_ ?_
  ·exact⟨rfl,trivial⟩
  exact(.refl _)
 rcases oi h with⟨c14,h⟩|⟨c14,h⟩
 ·refine .a 4 ?_;refine .nK [2] ?_;refine .rK [2] ?_;cases h;exact⟨[(AA (4:Int))],⟨rfl,rfl,trivial⟩,rfl⟩
 refine .a 5 ?_;refine .nK [2] ?_;refine .rK [2] ?_;cases h;exact⟨[(AA (0:Int))],⟨rfl,rfl,trivial⟩,rfl⟩
def HC (k:Nat) (p0:ByteArray):Option Bool:=
 Option.bind (α:=Bool) (if(1:Int)≤(p0.size:Int)then some (decide ((p0.size:Int)≤(40:Int)))
 else some (false)) fun b2=>
 some (b2)
def Be (k:Nat) (p0:ByteArray):Nat→Int→Option Bool
 | 0,_=>none
 | j+1,x5=>
   if x5<(p0.size:Int)then if 0≤x5∧x5<(p0.size:Int)then(Sj k (AF p0 x5)).bind fun t10=>
   Option.bind (α:=Bool) (if t10≠(3:Int)then if t10≠(2:Int)then some (true)
   else some (decide (x5=(0:Int)))
   else some (false)) fun b11=>
   if b11=true then some (false)
   else(Be k p0 j) (AH (x5+(1:Int)))
   else none
   else HC k p0
def Rj (k:Nat) (p0:ByteArray):Option Bool:=
 Be k p0 k (0:Int)
theorem Hn {k:Nat} {p0:ByteArray} {r:Bool} (h:Rj k p0=some r):AM Tryz.prog 56 [(AI p0)] (AB r):=by
 rw[Rj.eq_1]at h;refine AM.intro (res:=[.tmp 2]) Tryz.func56 rfl rfl rfl (Nat.le_of_ble_eq_true rfl) ?_;refine .a 3 ?_;refine .nK [0] ?_;refine .seq_mid (fun ρ H=>ρ=[(0,(AI p0))]∧H=[]∧HC k p0=some r) ?_ ?_
 ·refine .a 5 ?_;refine .wK [0,3] ?_;refine .loop (fun kq ρ H=>∃ (x5:Int),ρ=[(0,(AI p0)),(3,(AA x5))]∧H=[]∧Be k p0 kq x5=some r) k ⟨(0:Int),rfl,rfl,h⟩ ?_;rintro kq7 _ _ ⟨x5,rfl,rfl,h⟩
  cases kq7 with
  | zero=>rw[Be.eq_1]at h;cases h
  | succ kq7=>
  rw[Be.eq_2]at h;generalize hrec6:Be k p0 kq7=rec6 at h;refine .a 8 ?_;rcases oi h with⟨c8,h⟩|⟨c8,h⟩
  ·refine .a 8 ?_;obtain⟨g9,h⟩:=AD h;refine .a 1 ?_;obtain⟨t10,et10,h⟩:=ob h;refine .callS [(AY (AF p0 x5))] (AA t10) 14 rfl (by decide) Up rfl rfl rfl ⟨rfl,rfl,trivial⟩ (NY et10) ?_;refine .a 3 ?_;obtain⟨b11,q12,h⟩:=ob h;refine .regM [(0,(AI p0)),(3,(AA x5)),(24,(AB b11))] [] ?_ ?_
   ·refine .a 3 ?_;rcases oi q12 with⟨c13,q12⟩|⟨c13,q12⟩
    ·refine .a 3 ?_;rcases oi q12 with⟨c14,q12⟩|⟨c14,q12⟩
     ·refine .a 4 ?_;cases q12;refine .nilE ⟨rfl,rfl⟩ ?_ ?_
      ·exact⟨rfl,rfl,rfl,trivial⟩
      exact(.refl _)
     refine .a 4 ?_;cases q12;refine .nilE ⟨rfl,rfl⟩ ?_ ?_
     ·exact⟨rfl,rfl,rfl,trivial⟩
     exact(.refl _)
    refine .a 7 ?_;cases q12;refine .nilE ⟨rfl,rfl⟩ ?_ ?_
    ·exact⟨rfl,rfl,rfl,trivial⟩
    exact(.refl _)
   rcases oi h with⟨c15,h⟩|⟨c15,h⟩
   ·refine .a 4 ?_;refine .nK [2] ?_;refine .rK [2] ?_;have hr:=Option.some.inj h;subst hr;exact⟨[(AB false)],⟨rfl,rfl,trivial⟩,rfl⟩
   refine .a 6 ?_;refine .nK [0,3] ?_;exact⟨kq7,Nat.lt_succ_self _,(AH (x5+(1:Int))),rfl,rfl,by rw[hrec6];exact h⟩
  refine .a 1 ?_;refine .eK [0] ?_;exact⟨rfl,rfl,h⟩
 rintro _ _ ⟨rfl,rfl,h⟩;rw[HC.eq_1]at h;refine .seq ?_;obtain⟨b2,q3,h⟩:=ob h;refine .regM [(2,(AB b2))] [] ?_ ?_
 ·refine .a 4 ?_;rcases oi q3 with⟨c4,q3⟩|⟨c4,q3⟩
  ·refine .a 5 ?_;cases q3;refine .nilE ⟨rfl,rfl⟩ ?_ ?_
   ·exact⟨rfl,trivial⟩
   exact(.refl _)
  refine .a 5 ?_;cases q3;refine .nilE ⟨rfl,rfl⟩ ?_ ?_
  ·exact⟨rfl,trivial⟩
  exact(.refl _)
 refine .rK [2] ?_;have hr:=Option.some.inj h;subst hr;exact⟨[(AB b2)],⟨rfl,rfl,trivial⟩,rfl⟩
def Iv (k:Nat):Option Bool:=
 some (false)
def BL (k:Nat) (p0:ByteArray) (p1:Int):Nat→Int→Option Bool
 | 0,_=>none
 | j+1,x3=>
   if x3<(p0.size:Int)then if 0≤x3∧x3<(p0.size:Int)then if(AF p0 x3)=p1 then some (true)
   else(BL k p0 p1 j) (AH (x3+(1:Int)))
   else none
   else Iv k
def F2 (k:Nat) (p0:ByteArray) (p1:Int):Option Bool:=
 BL k p0 p1 k (0:Int)
theorem D1 {k:Nat} {p0:ByteArray} {p1:Int} {r:Bool} (h:F2 k p0 p1=some r):AM Tryz.prog 119 [(AI p0),(AY p1)] (AB r):=by
 rw[F2.eq_1]at h;refine AM.intro (res:=[.tmp 4]) Tryz.func119 rfl rfl rfl (Nat.le_of_ble_eq_true rfl) ?_;refine .a 3 ?_;refine .nK [0,1] ?_;refine .seq_mid (fun ρ H=>ρ=[]∧H=[]∧Iv k=some r) ?_ ?_
 ·refine .a 5 ?_;refine .wK [0,1,5] ?_;refine .loop (fun kq ρ H=>∃ (x3:Int),ρ=[(0,(AI p0)),(1,(AY p1)),(5,(AA x3))]∧H=[]∧BL k p0 p1 kq x3=some r) k ⟨(0:Int),rfl,rfl,h⟩ ?_;rintro kq5 _ _ ⟨x3,rfl,rfl,h⟩
  cases kq5 with
  | zero=>rw[BL.eq_1]at h;cases h
  | succ kq5=>
  rw[BL.eq_2]at h;generalize hrec4:BL k p0 p1 kq5=rec4 at h;refine .a 8 ?_;rcases oi h with⟨c6,h⟩|⟨c6,h⟩
  ·refine .a 8 ?_;obtain⟨g7,h⟩:=AD h;refine .a 4 ?_;rcases oi h with⟨c8,h⟩|⟨c8,h⟩
   ·refine .a 4 ?_;refine .nK [4] ?_;refine .rK [4] ?_;have hr:=Option.some.inj h;subst hr;exact⟨[(AB true)],⟨rfl,rfl,trivial⟩,rfl⟩
   refine .a 6 ?_;refine .nK [0,1,5] ?_;exact⟨kq5,Nat.lt_succ_self _,(AH (x3+(1:Int))),rfl,rfl,by rw[hrec4];exact h⟩
  refine .a 1 ?_;refine .eK [] ?_;exact⟨rfl,rfl,h⟩
 rintro _ _ ⟨rfl,rfl,h⟩;rw[Iv.eq_1]at h;refine .a 3 ?_;refine .nK [4] ?_;refine .rK [4] ?_;have hr:=Option.some.inj h;subst hr;exact⟨[(AB false)],⟨rfl,rfl,trivial⟩,rfl⟩
def Gv (k:Nat) (x5:Int):Option Bool:=
 some (decide ((x5.tmod (2:Int))=(1:Int)))
def Cr (k:Nat) (p1:Int):Nat→Int→Int→Option Bool
 | 0,_,_=>none
 | j+1,x6,x7=>
   if x7<(p1.tmod (64:Int))then(Cr k p1 j) (IntKind.u64.wrap (x6.tdiv (2:Int))) (AH (x7+(1:Int)))
   else Gv k x6
def Kx (k:Nat) (p0:(Vector Int 4)) (p1:Int):Option Bool:=
 if 0≤(IntKind.i64.wrap (p1.tdiv (64:Int)))∧(IntKind.i64.wrap (p1.tdiv (64:Int)))<(4:Int)then Cr k p1 k (Ag p0 (IntKind.i64.wrap (p1.tdiv (64:Int)))) (0:Int)
 else none
theorem GO {k:Nat} {p0:(Vector Int 4)} {p1:Int} {r:Bool} (h:Kx k p0 p1=some r):AM Tryz.prog 104 [(.ar 1 (p0.toList.map AL)),(AA p1)] (AB r):=by
 rw[Kx.eq_1]at h;refine AM.intro (res:=[.tmp 4]) Tryz.func104 rfl rfl rfl (Nat.le_of_ble_eq_true rfl) ?_;refine .sr ?_;refine .box rfl 2 rfl (by decide) rfl rfl rfl fun n3=>?_;refine .a 5 ?_;refine .c (x:=AA (IntKind.i64.wrap (p1.tdiv (64:Int)))) (.quo rfl rfl rfl (by decide)) ?_;obtain⟨g4,h⟩:=AD h;refine .c (.idxP rfl rfl rfl g4 Tryz.underlying120 BE) ?_;refine .c (.load 0 rfl rfl rfl (.cast (.vidx (IntKind.i64.wrap (p1.tdiv (64:Int))) g4.1 g4.2 .here) (by omega)) Ec BE) ?_;refine .ag rfl rfl ?_;refine .nS [1,5] [] ?_;refine .seq_mid (fun ρ H=>∃ (x5:Int),ρ=[(5,(AL x5))]∧H=[]∧Gv k x5=some r) ?_ ?_
 ·refine .a 5 ?_;refine .wK [1,5,6] ?_;refine .loop (fun kq ρ H=>∃ (x6:Int) (x7:Int),ρ=[(1,(AA p1)),(5,(AL x6)),(6,(AA x7))]∧H=[]∧Cr k p1 kq x6 x7=some r) k ⟨(Ag p0 (IntKind.i64.wrap (p1.tdiv (64:Int)))),(0:Int),rfl,rfl,h⟩ ?_;rintro kq9 _ _ ⟨x6,x7,rfl,rfl,h⟩
  cases kq9 with
  | zero=>rw[Cr.eq_1]at h;cases h
  | succ kq9=>
  rw[Cr.eq_2]at h;generalize hrec8:Cr k p1 kq9=rec8 at h;refine .a 5 ?_;refine .c (x:=AA (p1.tmod (64:Int))) (.rem rfl rfl rfl (by decide)) ?_;refine .a 2 ?_;rcases oi h with⟨c10,h⟩|⟨c10,h⟩
  ·refine .a 6 ?_;refine .c (x:=AL (IntKind.u64.wrap (x6.tdiv (2:Int)))) (.quo rfl rfl rfl (by decide)) ?_;refine .a 6 ?_;refine .nK [1,5,6] ?_;exact⟨kq9,Nat.lt_succ_self _,(IntKind.u64.wrap (x6.tdiv (2:Int))),(AH (x7+(1:Int))),rfl,rfl,by rw[hrec8];exact h⟩
  refine .a 1 ?_;refine .eK [5] ?_;exact⟨x6,rfl,rfl,h⟩
 rintro _ _ ⟨x5,rfl,rfl,h⟩;rw[Gv.eq_1]at h;refine .a 3 ?_;refine .c (x:=AL (x5.tmod (2:Int))) (.rem rfl rfl rfl (by decide)) ?_;refine .a 2 ?_;refine .nK [4] ?_;refine .rK [4] ?_;cases h;exact⟨[(AB (decide ((x5.tmod (2:Int))=(1:Int))))],⟨rfl,rfl,trivial⟩,rfl⟩
def Gj (k:Nat) (x4:(Vector Int 4)):Option (Vector Int 4):=
 some (x4)
def Et (k:Nat) (rec7:((Vector Int 4)→Int→Option (Vector Int 4))) (x6:Int) (x13:(Vector Int 4)):Option (Vector Int 4):=
 rec7 x13 (AH (x6+(1:Int)))
def CT (k:Nat) (p0:(List Bool)):Nat→(Vector Int 4)→Int→Option (Vector Int 4)
 | 0,_,_=>none
 | j+1,x5,x6=>
   Option.bind (α:=Bool) (if x6<(256:Int)then some (decide (x6<(p0.length:Int)))
   else some (false)) fun b9=>
   if b9=true then if 0≤x6∧x6<(p0.length:Int)then if(AC p0 x6)=true then if 0≤(IntKind.i64.wrap (x6.tdiv (64:Int)))∧(IntKind.i64.wrap (x6.tdiv (64:Int)))<(4:Int)then if 0≤(u64 (x6.tmod (64:Int)))then if 0≤(IntKind.i64.wrap (x6.tdiv (64:Int)))∧(IntKind.i64.wrap (x6.tdiv (64:Int)))<(4:Int)then Et k (CT k p0 j) x6 (BG x5 (IntKind.i64.wrap (x6.tdiv (64:Int))) (u64 ((Ag x5 (IntKind.i64.wrap (x6.tdiv (64:Int))))+(IntKind.u64.wrap ((1:Int)*2 ^ (min (u64 (x6.tmod (64:Int))).toNat IntKind.u64.bits))))))
   else none
   else none
   else none
   else Et k (CT k p0 j) x6 x5
   else none
   else Gj k x5
def J8 (k:Nat) (p0:(List Bool)):Option (Vector Int 4):=
 CT k p0 k (Vector.replicate 4 (0:Int)) (0:Int)
theorem Fz {k:Nat} {p0:(List Bool)} {r:(Vector Int 4)} (h:J8 k p0=some r):AM Tryz.prog 132 [(.fz 1 (p0.map AB))] (Cc r):=by
 rw[J8.eq_1]at h;refine AM.intro (res:=[.cell 2 120]) Tryz.func132 rfl rfl rfl (Nat.le_of_ble_eq_true rfl) ?_;refine .sr ?_;refine .alloc rfl 2 rfl (by decide) rfl Bq BP fun n2=>?_;refine .a 3 ?_;refine .alloc rfl 3 rfl (by decide) rfl Bq BP fun n3=>?_;refine .nS [0,2,3] [1,0] ?_;refine .seq_mid (fun ρ H=>∃ (x4:(Vector Int 4)),ρ=[(2,(.ptr n2 0)),(3,(.ptr n3 0))]∧H=[(Ba n2 ((Vector.replicate 4 (0:Int)).toList.map AL)),(Ba n3 (x4.toList.map AL))]∧Gj k x4=some r) ?_ ?_
 ·refine .a 5 ?_;refine .wK [0,2,3,4] ?_;refine .loop (fun kq ρ H=>∃ (x5:(Vector Int 4)) (x6:Int),ρ=[(0,(.fz 1 (p0.map AB))),(2,(.ptr n2 0)),(3,(.ptr n3 0)),(4,(AA x6))]∧H=[(Ba n2 ((Vector.replicate 4 (0:Int)).toList.map AL)),(Ba n3 (x5.toList.map AL))]∧CT k p0 kq x5 x6=some r) k ⟨(Vector.replicate 4 (0:Int)),(0:Int),rfl,rfl,h⟩ ?_;rintro kq8 _ _ ⟨x5,x6,rfl,rfl,h⟩
  cases kq8 with
  | zero=>rw[CT.eq_1]at h;cases h
  | succ kq8=>
  rw[CT.eq_2]at h;generalize hrec7:CT k p0 kq8=rec7 at h;refine .a 2 ?_;obtain⟨b9,q10,h⟩:=ob h;refine .regM [(0,(.fz 1 (p0.map AB))),(2,(.ptr n2 0)),(3,(.ptr n3 0)),(4,(AA x6)),(12,(AB b9))] [(Ba n2 ((Vector.replicate 4 (0:Int)).toList.map AL)),(Ba n3 (x5.toList.map AL))] ?_ ?_
  ·refine .a 3 ?_;rcases oi q10 with⟨c11,q10⟩|⟨c11,q10⟩
   ·refine .a 5 ?_;cases q10;refine .nilE ⟨rfl,rfl⟩ ?_ ?_
    ·exact⟨rfl,rfl,rfl,rfl,rfl,trivial⟩
    exact(.refl _)
   refine .a 5 ?_;cases q10;refine .nilE ⟨rfl,rfl⟩ ?_ ?_
   ·exact⟨rfl,rfl,rfl,rfl,rfl,trivial⟩
   exact(.refl _)
  rcases oi h with⟨c12,h⟩|⟨c12,h⟩
  ·refine .a 1 ?_;refine .sK [0,2,3,4] ?_;refine .seq_mid (fun ρ H=>∃ (x13:(Vector Int 4)),ρ=[(0,(.fz 1 (p0.map AB))),(2,(.ptr n2 0)),(3,(.ptr n3 0)),(4,(AA x6))]∧H=[(Ba n2 ((Vector.replicate 4 (0:Int)).toList.map AL)),(Ba n3 (x13.toList.map AL))]∧Et k rec7 x6 x13=some r) ?_ ?_
   ·refine .a 5 ?_;obtain⟨g14,h⟩:=AD h;refine .a 3 ?_;rcases oi h with⟨c15,h⟩|⟨c15,h⟩
    ·refine .a 3 ?_;refine .c (x:=AA (IntKind.i64.wrap (x6.tdiv (64:Int)))) (.quo rfl rfl rfl (by decide)) ?_;refine .a 1 ?_;refine .c (x:=AA (IntKind.i64.wrap (x6.tdiv (64:Int)))) (.quo rfl rfl rfl (by decide)) ?_;obtain⟨g16,h⟩:=AD h;refine .c (.idxP rfl rfl rfl g16 Tryz.underlying120 BE) ?_;refine .c (.load 1 rfl rfl rfl (.cast (.vidx (IntKind.i64.wrap (x6.tdiv (64:Int))) g16.1 g16.2 .here) (by omega)) Ec BE) ?_;refine .mv rfl rfl ?_;refine .c (x:=AA (x6.tmod (64:Int))) (.rem rfl rfl rfl (by decide)) ?_;refine .a 1 ?_;obtain⟨g17,h⟩:=AD h;refine .c (x:=AL (IntKind.u64.wrap ((1:Int)*2 ^ (min (u64 (x6.tmod (64:Int))).toNat IntKind.u64.bits)))) (.shl rfl rfl rfl g17) ?_;refine .a 1 ?_;obtain⟨g18,h⟩:=AD h;refine .c (.idxP rfl rfl rfl g18 Tryz.underlying120 BE) ?_;refine .store 1 rfl rfl rfl rfl rfl rfl (.cast (.vidx (IntKind.i64.wrap (x6.tdiv (64:Int))) (u64 ((Ag x5 (IntKind.i64.wrap (x6.tdiv (64:Int))))+(IntKind.u64.wrap ((1:Int)*2 ^ (min (u64 (x6.tmod (64:Int))).toNat IntKind.u64.bits))))) g18.1 g18.2 .here) (by omega)) rfl rfl BE rfl ?_;refine .nK [0,2,3,4] ?_;exact⟨(BG x5 (IntKind.i64.wrap (x6.tdiv (64:Int))) (u64 ((Ag x5 (IntKind.i64.wrap (x6.tdiv (64:Int))))+(IntKind.u64.wrap ((1:Int)*2 ^ (min (u64 (x6.tmod (64:Int))).toNat IntKind.u64.bits)))))),rfl,rfl,h⟩
    refine .a 1 ?_;refine .sK [0,2,3,4] ?_;exact⟨x5,rfl,rfl,h⟩
   rintro _ _ ⟨x13,rfl,rfl,h⟩;rw[Et.eq_1]at h;refine .a 4 ?_;refine .nK [0,2,3,4] ?_;exact⟨kq8,Nat.lt_succ_self _,x13,(AH (x6+(1:Int))),rfl,rfl,by rw[hrec7];exact h⟩
  refine .a 1 ?_;refine .eK [2,3] ?_;exact⟨x5,rfl,rfl,h⟩
 rintro _ _ ⟨x4,rfl,rfl,h⟩;rw[Gj.eq_1]at h;refine .a 3 ?_;refine .store 0 rfl rfl rfl rfl rfl rfl (.cast .here rfl) rfl (by simp[AV.size]) (by rw[BX];simp[AV.size]) rfl ?_;refine .nS [2] [0] ?_;refine .rK [2] ?_;have hr:=Option.some.inj h;subst hr;exact⟨[(.ar 1 (x4.toList.map AL))],⟨⟨_,0,rfl,rfl,Ft,(by rw[BX];simp[AV.size])⟩,trivial⟩,rfl⟩
def Eo (k:Nat) (x8:(List Bool)):Option (Vector Int 4):=
 (J8 k x8).bind fun t9=>
 some (t9)
def CF (k:Nat) (rec13:((List Bool)→Int→Option (Vector Int 4))) (x12:Int) (x17:(List Bool)):Option (Vector Int 4):=
 rec13 x17 (AH (x12+(1:Int)))
def BH (k:Nat) (p0:Int) (p1:(Vector Int 4)) (p2:(Vector Int 4)):Nat→(List Bool)→Int→Option (Vector Int 4)
 | 0,_,_=>none
 | j+1,x11,x12=>
   if x12<(256:Int)then(Kx k p1 x12).bind fun t18=>
   (Kx k p2 x12).bind fun t19=>
   if p0=(0:Int)then if t18=true then if(x11++([true]:List Bool)).length*1≤140737488355328 then CF k (BH k p0 p1 p2 j) x12 (x11++([true]:List Bool))
   else none
   else if(x11++([t19]:List Bool)).length*1≤140737488355328 then CF k (BH k p0 p1 p2 j) x12 (x11++([t19]:List Bool))
   else none
   else if p0=(1:Int)then if t18=true then if(x11++([t19]:List Bool)).length*1≤140737488355328 then CF k (BH k p0 p1 p2 j) x12 (x11++([t19]:List Bool))
   else none
   else if(x11++([false]:List Bool)).length*1≤140737488355328 then CF k (BH k p0 p1 p2 j) x12 (x11++([false]:List Bool))
   else none
   else if p0=(2:Int)then if t18=true then if(x11++([!t19]:List Bool)).length*1≤140737488355328 then CF k (BH k p0 p1 p2 j) x12 (x11++([!t19]:List Bool))
   else none
   else if(x11++([false]:List Bool)).length*1≤140737488355328 then CF k (BH k p0 p1 p2 j) x12 (x11++([false]:List Bool))
   else none
   else if(x11++([!t18]:List Bool)).length*1≤140737488355328 then CF k (BH k p0 p1 p2 j) x12 (x11++([!t18]:List Bool))
   else none
   else Eo k x11
def K9 (k:Nat) (p0:Int) (p1:(Vector Int 4)) (p2:(Vector Int 4)):Option (Vector Int 4):=
 BH k p0 p1 p2 k ([]:List Bool) (0:Int)
theorem IP {k:Nat} {p0:Int} {p1:(Vector Int 4)} {p2:(Vector Int 4)} {r:(Vector Int 4)} (h:K9 k p0 p1 p2=some r):AM Tryz.prog 129 [(AA p0),(.ar 1 (p1.toList.map AL)),(.ar 1 (p2.toList.map AL))] (Cc r):=by
 rw[K9.eq_1]at h;refine AM.intro (res:=[.cell 6 120]) Tryz.func129 rfl rfl rfl (Nat.le_of_ble_eq_true rfl) ?_;refine .sr ?_;refine .box rfl 4 rfl (by decide) rfl rfl rfl fun n4=>?_;refine .box rfl 5 rfl (by decide) rfl rfl rfl fun n5=>?_;refine .alloc rfl 6 rfl (by decide) rfl Bq BP fun n6=>?_;refine .nS [0,4,5,6] [2,1,0] ?_;refine .a 3 ?_;refine .nK [0,4,5,6,7] ?_;refine .seq_mid (fun ρ H=>∃ (n7:Nat) (x8:(List Bool)),ρ=[(6,(.ptr n6 0)),(7,(.own n7 0 x8.length))]∧H=[(Ba n6 ((Vector.replicate 4 (0:Int)).toList.map AL)),(Cy n7 x8)]∧Eo k x8=some r) ?_ ?_
 ·refine .a 5 ?_;refine .nilOwn 7 1 rfl fun n47=>?_;refine .wH [0,4,5,6,7,8] (H':=[(Ba n4 (p1.toList.map AL)),(Ba n5 (p2.toList.map AL)),(Ba n6 ((Vector.replicate 4 (0:Int)).toList.map AL)),(Cy n47 ([]:List Bool))]) (.cons 1 rfl (.cons 1 rfl (.cons 1 rfl (.cons 0 rfl (.nil _))))) ?_;refine .loop (fun kq ρ H=>∃ (n10:Nat) (x11:(List Bool)) (x12:Int),ρ=[(0,(AA p0)),(4,(.ptr n4 0)),(5,(.ptr n5 0)),(6,(.ptr n6 0)),(7,(.own n10 0 x11.length)),(8,(AA x12))]∧H=[(Ba n4 (p1.toList.map AL)),(Ba n5 (p2.toList.map AL)),(Ba n6 ((Vector.replicate 4 (0:Int)).toList.map AL)),(Cy n10 x11)]∧BH k p0 p1 p2 kq x11 x12=some r) k ⟨n47,([]:List Bool),(0:Int),rfl,rfl,h⟩ ?_;rintro kq14 _ _ ⟨n10,x11,x12,rfl,rfl,h⟩
  cases kq14 with
  | zero=>rw[BH.eq_1]at h;cases h
  | succ kq14=>
  rw[BH.eq_2]at h;generalize hrec13:BH k p0 p1 p2 kq14=rec13 at h;refine .a 6 ?_;rcases oi h with⟨c15,h⟩|⟨c15,h⟩
  ·refine .a 1 ?_;refine .sK [0,4,5,6,7,8] ?_;refine .seq_mid (fun ρ H=>∃ (n16:Nat) (x17:(List Bool)),ρ=[(0,(AA p0)),(4,(.ptr n4 0)),(5,(.ptr n5 0)),(6,(.ptr n6 0)),(7,(.own n16 0 x17.length)),(8,(AA x12))]∧H=[(Ba n4 (p1.toList.map AL)),(Ba n5 (p2.toList.map AL)),(Ba n6 ((Vector.replicate 4 (0:Int)).toList.map AL)),(Cy n16 x17)]∧CF k rec13 x12 x17=some r) ?_ ?_
   ·refine .a 2 ?_;refine .regQ (by rfl) (by decide+kernel) ?_;refine .a 2 ?_;obtain⟨t18,et18,h⟩:=ob h;refine .c (.call (args:=[(.ar 1 (p1.toList.map AL)),(AA x12)]) rfl rfl Oj ⟨rfl,rfl,rfl,rfl,trivial⟩ rfl (GO et18)) ?_;refine .a 2 ?_;obtain⟨t19,et19,h⟩:=ob h;refine .c (.call (args:=[(.ar 1 (p2.toList.map AL)),(AA x12)]) rfl rfl Oj ⟨rfl,rfl,rfl,rfl,trivial⟩ rfl (GO et19)) ?_;refine .c (.assign rfl rfl) ?_;refine .c (.assign rfl rfl) ?_;refine .nK [0,4,5,6,7,8,9,10] ?_;refine .sr ?_;refine .mv rfl rfl ?_;refine .nK [0,4,5,6,7,8,9,10,21] ?_;refine .block ?_;refine .sr ?_;refine .c (x:=AB (decide (p0=(0:Int)))) (.int rfl rfl rfl rfl) ?_;refine .ag rfl rfl ?_;refine .nK [0,4,5,6,7,8,9,10,21,27] ?_;rcases oi h with⟨c20,h⟩|⟨c20,h⟩
    ·refine .a 5 ?_;rcases oi h with⟨c21,h⟩|⟨c21,h⟩
     ·refine .a 2 ?_;refine .lit (Z:=(AB false)) (xs:=(([true]:List Bool).map AB)) (qs:=[(0,(AB true))]) rfl 34 rfl (by decide) rfl ⟨rfl,rfl,rfl,trivial⟩ Tryz.underlying95 C1 GV E8 rfl (by decide) (Aj (z:=1) [(AB true)] rfl ⟨⟨rfl,rfl⟩,trivial⟩) rfl fun n22=>?_;obtain⟨g24,h⟩:=AD h;refine .appendL (l:=x11) (m:=([true]:List Bool)) 4 35 rfl (by decide) rfl rfl rfl rfl rfl (EJ.ownL (f:=AB) (l:=([true]:List Bool)) 0 rfl) Tryz.underlying95 Tryz.underlying95 C1 KS GV rfl g24 (by decide) fun n23=>?_;refine .a 1 ?_;refine .nS [0,4,5,6,7,8] [1,2,3,4] ?_;exact⟨n23,(x11++([true]:List Bool)),rfl,rfl,h⟩
     refine .a 2 ?_;refine .lit (Z:=(AB false)) (xs:=(([t19]:List Bool).map AB)) (qs:=[(0,(AB t19))]) rfl 34 rfl (by decide) rfl ⟨rfl,rfl,rfl,trivial⟩ Tryz.underlying95 C1 GV E8 rfl (by decide) (Aj (z:=1) [(AB t19)] rfl ⟨⟨rfl,rfl⟩,trivial⟩) rfl fun n25=>?_;obtain⟨g27,h⟩:=AD h;refine .appendL (l:=x11) (m:=([t19]:List Bool)) 4 35 rfl (by decide) rfl rfl rfl rfl rfl (EJ.ownL (f:=AB) (l:=([t19]:List Bool)) 0 rfl) Tryz.underlying95 Tryz.underlying95 C1 KS GV rfl g27 (by decide) fun n26=>?_;refine .a 1 ?_;refine .nS [0,4,5,6,7,8] [1,2,3,4] ?_;exact⟨n26,(x11++([t19]:List Bool)),rfl,rfl,h⟩
    refine .a 6 ?_;rcases oi h with⟨c28,h⟩|⟨c28,h⟩
    ·refine .a 5 ?_;rcases oi h with⟨c29,h⟩|⟨c29,h⟩
     ·refine .a 2 ?_;refine .lit (Z:=(AB false)) (xs:=(([t19]:List Bool).map AB)) (qs:=[(0,(AB t19))]) rfl 43 rfl (by decide) rfl ⟨rfl,rfl,rfl,trivial⟩ Tryz.underlying95 C1 GV E8 rfl (by decide) (Aj (z:=1) [(AB t19)] rfl ⟨⟨rfl,rfl⟩,trivial⟩) rfl fun n30=>?_;obtain⟨g32,h⟩:=AD h;refine .appendL (l:=x11) (m:=([t19]:List Bool)) 4 44 rfl (by decide) rfl rfl rfl rfl rfl (EJ.ownL (f:=AB) (l:=([t19]:List Bool)) 0 rfl) Tryz.underlying95 Tryz.underlying95 C1 KS GV rfl g32 (by decide) fun n31=>?_;refine .a 1 ?_;refine .nS [0,4,5,6,7,8] [1,2,3,4] ?_;exact⟨n31,(x11++([t19]:List Bool)),rfl,rfl,h⟩
     refine .a 2 ?_;refine .lit (Z:=(AB false)) (xs:=(([false]:List Bool).map AB)) (qs:=[(0,(AB false))]) rfl 43 rfl (by decide) rfl ⟨rfl,rfl,rfl,trivial⟩ Tryz.underlying95 C1 GV E8 rfl (by decide) (Aj (z:=1) [(AB false)] rfl ⟨⟨rfl,rfl⟩,trivial⟩) rfl fun n33=>?_;obtain⟨g35,h⟩:=AD h;refine .appendL (l:=x11) (m:=([false]:List Bool)) 4 44 rfl (by decide) rfl rfl rfl rfl rfl (EJ.ownL (f:=AB) (l:=([false]:List Bool)) 0 rfl) Tryz.underlying95 Tryz.underlying95 C1 KS GV rfl g35 (by decide) fun n34=>?_;refine .a 1 ?_;refine .nS [0,4,5,6,7,8] [1,2,3,4] ?_;exact⟨n34,(x11++([false]:List Bool)),rfl,rfl,h⟩
    refine .a 6 ?_;rcases oi h with⟨c36,h⟩|⟨c36,h⟩
    ·refine .a 5 ?_;rcases oi h with⟨c37,h⟩|⟨c37,h⟩
     ·refine .a 3 ?_;refine .lit (Z:=(AB false)) (xs:=(([!t19]:List Bool).map AB)) (qs:=[(0,(AB (!t19)))]) rfl 53 rfl (by decide) rfl ⟨rfl,rfl,rfl,trivial⟩ Tryz.underlying95 C1 GV E8 rfl (by decide) (Aj (z:=1) [(AB (!t19))] rfl ⟨⟨rfl,rfl⟩,trivial⟩) rfl fun n38=>?_;obtain⟨g40,h⟩:=AD h;refine .appendL (l:=x11) (m:=([!t19]:List Bool)) 4 54 rfl (by decide) rfl rfl rfl rfl rfl (EJ.ownL (f:=AB) (l:=([!t19]:List Bool)) 0 rfl) Tryz.underlying95 Tryz.underlying95 C1 KS GV rfl g40 (by decide) fun n39=>?_;refine .a 1 ?_;refine .nS [0,4,5,6,7,8] [1,2,3,4] ?_;exact⟨n39,(x11++([!t19]:List Bool)),rfl,rfl,h⟩
     refine .a 3 ?_;refine .lit (Z:=(AB false)) (xs:=(([false]:List Bool).map AB)) (qs:=[(0,(AB false))]) rfl 53 rfl (by decide) rfl ⟨rfl,rfl,rfl,trivial⟩ Tryz.underlying95 C1 GV E8 rfl (by decide) (Aj (z:=1) [(AB false)] rfl ⟨⟨rfl,rfl⟩,trivial⟩) rfl fun n41=>?_;obtain⟨g43,h⟩:=AD h;refine .appendL (l:=x11) (m:=([false]:List Bool)) 4 54 rfl (by decide) rfl rfl rfl rfl rfl (EJ.ownL (f:=AB) (l:=([false]:List Bool)) 0 rfl) Tryz.underlying95 Tryz.underlying95 C1 KS GV rfl g43 (by decide) fun n42=>?_;refine .a 1 ?_;refine .nS [0,4,5,6,7,8] [1,2,3,4] ?_;exact⟨n42,(x11++([false]:List Bool)),rfl,rfl,h⟩
    refine .a 5 ?_;refine .lit (Z:=(AB false)) (xs:=(([!t18]:List Bool).map AB)) (qs:=[(0,(AB (!t18)))]) rfl 25 rfl (by decide) rfl ⟨rfl,rfl,rfl,trivial⟩ Tryz.underlying95 C1 GV E8 rfl (by decide) (Aj (z:=1) [(AB (!t18))] rfl ⟨⟨rfl,rfl⟩,trivial⟩) rfl fun n44=>?_;obtain⟨g46,h⟩:=AD h;refine .appendL (l:=x11) (m:=([!t18]:List Bool)) 4 26 rfl (by decide) rfl rfl rfl rfl rfl (EJ.ownL (f:=AB) (l:=([!t18]:List Bool)) 0 rfl) Tryz.underlying95 Tryz.underlying95 C1 KS GV rfl g46 (by decide) fun n45=>?_;refine .a 1 ?_;refine .nS [0,4,5,6,7,8] [1,2,3,4] ?_;exact⟨n45,(x11++([!t18]:List Bool)),rfl,rfl,h⟩
   rintro _ _ ⟨n16,x17,rfl,rfl,h⟩;rw[CF.eq_1]at h;refine .a 4 ?_;refine .nK [0,4,5,6,7,8] ?_;exact⟨kq14,Nat.lt_succ_self _,n16,x17,(AH (x12+(1:Int))),rfl,rfl,by rw[hrec13];exact h⟩
  refine .a 1 ?_;refine .eH [6,7] (H':=[(Ba n6 ((Vector.replicate 4 (0:Int)).toList.map AL)),(Cy n10 x11)]) (.cons 2 rfl (.cons 2 rfl (.nil _))) ?_;exact⟨n10,x11,rfl,rfl,h⟩
 rintro _ _ ⟨n7,x8,rfl,rfl,h⟩;rw[Eo.eq_1]at h;refine .a 3 ?_;obtain⟨t9,et9,h⟩:=ob h;refine .freezeS 1 [(7,(.fz 1 (x8.map AB))),(55,(.fz 1 (x8.map AB)))] rfl ⟨Ad rfl,Ad rfl,trivial⟩ ?_;refine .callS [(.fz 1 (x8.map AB))] (.ar 1 (t9.toList.map AL)) 56 rfl (by decide) O9 rfl rfl rfl ⟨rfl,rfl,trivial⟩ (Fz et9) ?_;refine .store 0 rfl rfl rfl rfl rfl rfl (.cast .here rfl) rfl (by simp[AV.size]) (by rw[BX];simp[AV.size]) rfl ?_;refine .nK [6] ?_;refine .rK [6] ?_;have hr:=Option.some.inj h;subst hr;exact⟨[(.ar 1 (t9.toList.map AL))],⟨⟨_,0,rfl,rfl,Ft,(by rw[BX];simp[AV.size])⟩,trivial⟩,rfl⟩
def Pb (k:Nat) (p0:Int) (p1:ByteArray):Option ByteArray:=
 (some (ByteArray.mk #[48,49,50,51,52,53,54,55,56,57,97,98,99,100,101,102])).bind fun x3=>
 if p0=(10:Int)then some ((ByteArray.mk #[92,110]))
 else if p0=(9:Int)then some ((ByteArray.mk #[92,116]))
 else if p0=(13:Int)then some ((ByteArray.mk #[92,114]))
 else Option.bind (α:=Bool) (if p0<(32:Int)then some (true)
 else some (decide ((126:Int)<p0))) fun b7=>
 if b7=true then if 0≤(IntKind.u8.wrap (p0.tdiv (16:Int)))∧(IntKind.u8.wrap (p0.tdiv (16:Int)))≤(w8 ((IntKind.u8.wrap (p0.tdiv (16:Int)))+(1:Int)))∧(w8 ((IntKind.u8.wrap (p0.tdiv (16:Int)))+(1:Int)))≤(x3.size:Int)then if(ByteArray.mk #[92,120]).size+(x3.extract (IntKind.u8.wrap (p0.tdiv (16:Int))).toNat (w8 ((IntKind.u8.wrap (p0.tdiv (16:Int)))+(1:Int))).toNat).size≤9223372036854775807 then if 0≤(p0.tmod (16:Int))∧(p0.tmod (16:Int))≤(w8 ((p0.tmod (16:Int))+(1:Int)))∧(w8 ((p0.tmod (16:Int))+(1:Int)))≤(x3.size:Int)then if((ByteArray.mk #[92,120])++(x3.extract (IntKind.u8.wrap (p0.tdiv (16:Int))).toNat (w8 ((IntKind.u8.wrap (p0.tdiv (16:Int)))+(1:Int))).toNat)).size+(x3.extract (p0.tmod (16:Int)).toNat (w8 ((p0.tmod (16:Int))+(1:Int))).toNat).size≤9223372036854775807 then some ((((ByteArray.mk #[92,120])++(x3.extract (IntKind.u8.wrap (p0.tdiv (16:Int))).toNat (w8 ((IntKind.u8.wrap (p0.tdiv (16:Int)))+(1:Int))).toNat))++(x3.extract (p0.tmod (16:Int)).toNat (w8 ((p0.tmod (16:Int))+(1:Int))).toNat)))
 else none
 else none
 else none
 else none
 else Option.bind (α:=Bool) (if p0=(92:Int)then some (true)
 else(Mh k p1 p0).bind fun t18=>
 some (t18)) fun b15=>
 if b15=true then if(ByteArray.mk #[92]).size+(strOfNums ([p0]:List Int)).size≤9223372036854775807 then some (((ByteArray.mk #[92])++(strOfNums ([p0]:List Int))))
 else none
 else some ((strOfNums ([p0]:List Int)))
theorem MM {k:Nat} {p0:Int} {p1:ByteArray} {r:ByteArray} (h:Pb k p0 p1=some r):AM Tryz.prog 137 [(AY p0),(AI p1)] (AI r):=by
 rw[Pb.eq_1]at h;refine AM.intro (res:=[.tmp 4]) Tryz.func137 rfl rfl rfl (Nat.le_of_ble_eq_true rfl) ?_;refine .a 6 ?_;obtain⟨x3,ex3,h⟩:=ob h;refine .c (.assign rfl (congrArg (fun x=>some (AI x)) (Option.some.inj ex3))) ?_;refine .a 9 ?_;rcases oi h with⟨c4,h⟩|⟨c4,h⟩
 ·refine .a 4 ?_;refine .nK [4] ?_;refine .rK [4] ?_;cases h;exact⟨[(AI (ByteArray.mk #[92,110]))],⟨rfl,rfl,trivial⟩,rfl⟩
 refine .a 7 ?_;rcases oi h with⟨c5,h⟩|⟨c5,h⟩
 ·refine .a 4 ?_;refine .nK [4] ?_;refine .rK [4] ?_;cases h;exact⟨[(AI (ByteArray.mk #[92,116]))],⟨rfl,rfl,trivial⟩,rfl⟩
 refine .a 7 ?_;rcases oi h with⟨c6,h⟩|⟨c6,h⟩
 ·refine .a 4 ?_;refine .nK [4] ?_;refine .rK [4] ?_;cases h;exact⟨[(AI (ByteArray.mk #[92,114]))],⟨rfl,rfl,trivial⟩,rfl⟩
 refine .a 2 ?_;obtain⟨b7,q8,h⟩:=ob h;refine .regM [(0,(AY p0)),(1,(AI p1)),(5,(AI x3)),(15,(AB b7))] [] ?_ ?_
 ·refine .a 3 ?_;rcases oi q8 with⟨c9,q8⟩|⟨c9,q8⟩
  ·refine .a 4 ?_;cases q8;refine .nilE ⟨rfl,rfl⟩ ?_ ?_
   ·exact⟨rfl,rfl,rfl,rfl,trivial⟩
   exact(.refl _)
  refine .a 4 ?_;cases q8;refine .nilE ⟨rfl,rfl⟩ ?_ ?_
  ·exact⟨rfl,rfl,rfl,rfl,trivial⟩
  exact(.refl _)
 rcases oi h with⟨c10,h⟩|⟨c10,h⟩
 ·refine .a 2 ?_;refine .regQ (by rfl) (by decide+kernel) ?_;refine .a 2 ?_;refine .c (x:=AY (IntKind.u8.wrap (p0.tdiv (16:Int)))) (.quo rfl rfl rfl (by decide)) ?_;refine .a 1 ?_;refine .c (x:=AY (IntKind.u8.wrap (p0.tdiv (16:Int)))) (.quo rfl rfl rfl (by decide)) ?_;refine .a 1 ?_;obtain⟨g11,h⟩:=AD h;refine .c (x:=AI (x3.extract (IntKind.u8.wrap (p0.tdiv (16:Int))).toNat (w8 ((IntKind.u8.wrap (p0.tdiv (16:Int)))+(1:Int))).toNat)) (.sliceS rfl rfl rfl rfl g11 Tryz.underlying9) ?_;obtain⟨g12,h⟩:=AD h;refine .c (x:=AI ((ByteArray.mk #[92,120])++(x3.extract (IntKind.u8.wrap (p0.tdiv (16:Int))).toNat (w8 ((IntKind.u8.wrap (p0.tdiv (16:Int)))+(1:Int))).toNat))) (.cat rfl rfl rfl g12) ?_;refine .a 2 ?_;refine .c (x:=AY (p0.tmod (16:Int))) (.rem rfl rfl rfl (by decide)) ?_;refine .a 1 ?_;refine .c (x:=AY (p0.tmod (16:Int))) (.rem rfl rfl rfl (by decide)) ?_;refine .a 1 ?_;obtain⟨g13,h⟩:=AD h;refine .c (x:=AI (x3.extract (p0.tmod (16:Int)).toNat (w8 ((p0.tmod (16:Int))+(1:Int))).toNat)) (.sliceS rfl rfl rfl rfl g13 Tryz.underlying9) ?_;obtain⟨g14,h⟩:=AD h;refine .c (x:=AI (((ByteArray.mk #[92,120])++(x3.extract (IntKind.u8.wrap (p0.tdiv (16:Int))).toNat (w8 ((IntKind.u8.wrap (p0.tdiv (16:Int)))+(1:Int))).toNat))++(x3.extract (p0.tmod (16:Int)).toNat (w8 ((p0.tmod (16:Int))+(1:Int))).toNat))) (.cat rfl rfl rfl g14) ?_;refine .a 1 ?_;refine .nK [4] ?_;refine .rK [4] ?_;cases h
  exact⟨[(AI (((ByteArray.mk #[92,120])++(x3.extract (IntKind.u8.wrap (p0.tdiv (16:Int))).toNat (w8 ((IntKind.u8.wrap (p0.tdiv (16:Int)))+(1:Int))).toNat))++(x3.extract (p0.tmod (16:Int)).toNat (w8 ((p0.tmod (16:Int))+(1:Int))).toNat)))],⟨rfl,rfl,trivial⟩,rfl⟩
 refine .a 2 ?_;obtain⟨b15,q16,h⟩:=ob h;refine .regM [(0,(AY p0)),(38,(AB b15))] [] ?_ ?_
 ·refine .a 3 ?_;rcases oi q16 with⟨c17,q16⟩|⟨c17,q16⟩
  ·refine .a 5 ?_;cases q16;refine .nilE ⟨rfl,rfl⟩ ?_ ?_
   ·exact⟨rfl,rfl,trivial⟩
   exact(.refl _)
  refine .a 2 ?_;obtain⟨t18,et18,q16⟩:=ob q16;refine .callG 2 false 41 [(AI p1),(AY p0)] (AB t18) 44 rfl (by decide) L0 rfl rfl (bD (decide_eq_false c17)) rfl rfl ⟨rfl,rfl,rfl,rfl,trivial⟩ (E6 et18) ?_;refine .a 2 ?_;cases q16;refine .nilE ⟨rfl,rfl⟩ ?_ ?_
  ·exact⟨rfl,rfl,trivial⟩
  exact(.refl _)
 rcases oi h with⟨c19,h⟩|⟨c19,h⟩
 ·refine .a 4 ?_;refine .lit (Z:=(AY (0:Int))) (xs:=(([p0]:List Int).map AY)) (qs:=[(0,(AY p0))]) rfl 47 rfl (by decide) rfl ⟨rfl,rfl,rfl,trivial⟩ Tryz.underlying130 Hr Rv MR rfl (by decide) (Aj (z:=1) [(AY p0)] rfl ⟨⟨rfl,rfl⟩,trivial⟩) rfl fun n20=>?_;refine .c (x:=AI (strOfNums ([p0]:List Int))) (.strO 0 rfl rfl rfl Tryz.underlying130 Tryz.underlying9 Tryz.underlying5) ?_;obtain⟨g21,h⟩:=AD h;refine .c (x:=AI ((ByteArray.mk #[92])++(strOfNums ([p0]:List Int)))) (.cat rfl rfl rfl g21) ?_;refine .a 1 ?_;refine .nS [4] [] ?_;refine .rK [4] ?_;cases h;exact⟨[(AI ((ByteArray.mk #[92])++(strOfNums ([p0]:List Int))))],⟨rfl,rfl,trivial⟩,rfl⟩
 refine .a 5 ?_;refine .lit (Z:=(AY (0:Int))) (xs:=(([p0]:List Int).map AY)) (qs:=[(0,(AY p0))]) rfl 51 rfl (by decide) rfl ⟨rfl,rfl,rfl,trivial⟩ Tryz.underlying130 Hr Rv MR rfl (by decide) (Aj (z:=1) [(AY p0)] rfl ⟨⟨rfl,rfl⟩,trivial⟩) rfl fun n22=>?_;refine .c (x:=AI (strOfNums ([p0]:List Int))) (.strO 0 rfl rfl rfl Tryz.underlying130 Tryz.underlying9 Tryz.underlying5) ?_;refine .a 1 ?_;refine .nS [4] [] ?_;refine .rK [4] ?_;cases h;exact⟨[(AI (strOfNums ([p0]:List Int)))],⟨rfl,rfl,trivial⟩,rfl⟩
end Go.Avl.TC
