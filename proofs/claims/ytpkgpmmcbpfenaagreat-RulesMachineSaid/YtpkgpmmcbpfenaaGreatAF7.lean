/- Parts: T8f56, T8f119, T8f104, T8f132, T8f129, T8f137, T8f131, T8f130, T8f77, T8f45, T8f120, T8f121. -/
import Derived.Test.YtpkgpmmcbpfenaaGreatAF1
import Derived.Test.YtpkgpmmcbpfenaaGreatAF6
namespace Go.Avl.T8
open Go Go.RowKit Go.Proofs Go.Avl
set_option linter.unusedVariables false
set_option maxRecDepth 100000
set_option maxHeartbeats 4000000
attribute [local irreducible] AW AO AQ AY Aq AH
def KF (k:Nat) (p0:ByteArray):Option Bool:=
 Option.bind (α:=Bool) (if(1:Int)≤(p0.size:Int)then some (decide ((p0.size:Int)≤(40:Int)))
 else some (false)) fun b2=>
 some (b2)
def Bv (k:Nat) (p0:ByteArray):Nat→Int→Option Bool
 | 0,_=>none
 | j+1,x5=>
   if x5<(p0.size:Int)then if 0≤x5∧x5<(p0.size:Int)then(Yl k (AF p0 x5)).bind fun t10=>
   Option.bind (α:=Bool) (if t10≠(3:Int)then if t10≠(2:Int)then some (true)
   else some (decide (x5=(0:Int)))
   else some (false)) fun b11=>
   if b11=true then some (false)
   else(Bv k p0 j) (AG (x5+(1:Int)))
   else none
   else KF k p0
def aJ (k:Nat) (p0:ByteArray):Option Bool:=
 Bv k p0 k (0:Int)
theorem TH {k:Nat} {p0:ByteArray} {r:Bool} (h:aJ k p0=some r):AY Tryz.prog 56 [(AN p0)] (AD r):=by
 rw[aJ.eq_1]at h;refine AY.intro (res:=[.tmp 2]) Tryz.func56 rfl rfl rfl (Nat.le_of_ble_eq_true rfl) ?_;refine .a 3 ?_;refine .nK [0] ?_;refine .seq_mid (fun ρ H=>ρ=[(0,(AN p0))]∧H=[]∧KF k p0=some r) ?_ ?_
 ·refine .a 5 ?_;refine .wK [0,3] ?_;refine .loop (fun kq ρ H=>∃ (x5:Int),ρ=[(0,(AN p0)),(3,(AB x5))]∧H=[]∧Bv k p0 kq x5=some r) k ⟨(0:Int),rfl,rfl,h⟩ ?_;rintro kq7 _ _ ⟨x5,rfl,rfl,h⟩
  cases kq7 with
  | zero=>rw[Bv.eq_1]at h;cases h
  | succ kq7=>
  rw[Bv.eq_2]at h;generalize hrec6:Bv k p0 kq7=rec6 at h;refine .a 8 ?_;rcases oi h with⟨c8,h⟩|⟨c8,h⟩
  ·refine .a 8 ?_;obtain⟨g9,h⟩:=AC h;refine .a 1 ?_;obtain⟨t10,et10,h⟩:=ob h;refine .callS [(AK (AF p0 x5))] (AB t10) 14 rfl (by decide) bP rfl rfl rfl ⟨rfl,rfl,trivial⟩ (US et10) ?_;refine .a 3 ?_;obtain⟨b11,q12,h⟩:=ob h;refine .regM [(0,(AN p0)),(3,(AB x5)),(24,(AD b11))] [] ?_ ?_
   ·refine .a 3 ?_;rcases oi q12 with⟨c13,q12⟩|⟨c13,q12⟩
    ·refine .a 3 ?_;rcases oi q12 with⟨c14,q12⟩|⟨c14,q12⟩
     ·refine .a 4 ?_;cases q12;refine .nilE ⟨rfl,rfl⟩ ?_ ?_
      ·exact⟨rfl,rfl,rfl,trivial⟩
      exact(.refl _)
     refine .a 4 ?_;cases q12;refine .nilE ⟨rfl,rfl⟩ ?_ ?_
     ·exact⟨rfl,rfl,rfl,trivial⟩
     exact(.refl _)
    refine .a 7 ?_;cases q12;refine .nilE ⟨rfl,rfl⟩ ?_ ?_
    ·exact⟨rfl,rfl,rfl,trivial⟩
    exact(.refl _)
   rcases oi h with⟨c15,h⟩|⟨c15,h⟩
   ·refine .a 4 ?_;refine .nK [2] ?_;refine .rK [2] ?_;have hr:=Option.some.inj h;subst hr;exact⟨[(AD false)],⟨rfl,rfl,trivial⟩,rfl⟩
   refine .a 6 ?_;refine .nK [0,3] ?_;exact⟨kq7,Nat.lt_succ_self _,(AG (x5+(1:Int))),rfl,rfl,by rw[hrec6];exact h⟩
  refine .a 1 ?_;refine .eK [0] ?_;exact⟨rfl,rfl,h⟩
 rintro _ _ ⟨rfl,rfl,h⟩;rw[KF.eq_1]at h;refine .seq ?_;obtain⟨b2,q3,h⟩:=ob h;refine .regM [(2,(AD b2))] [] ?_ ?_
 ·refine .a 4 ?_;rcases oi q3 with⟨c4,q3⟩|⟨c4,q3⟩
  ·refine .a 5 ?_;cases q3;refine .nilE ⟨rfl,rfl⟩ ?_ ?_
   ·exact⟨rfl,trivial⟩
   exact(.refl _)
  refine .a 5 ?_;cases q3;refine .nilE ⟨rfl,rfl⟩ ?_ ?_
  ·exact⟨rfl,trivial⟩
  exact(.refl _)
 refine .rK [2] ?_;have hr:=Option.some.inj h;subst hr;exact⟨[(AD b2)],⟨rfl,rfl,trivial⟩,rfl⟩
def M4 (k:Nat):Option Bool:=
 some (false)
def Bg (k:Nat) (p0:ByteArray) (p1:Int):Nat→Int→Option Bool
 | 0,_=>none
 | j+1,x3=>
   if x3<(p0.size:Int)then if 0≤x3∧x3<(p0.size:Int)then if(AF p0 x3)=p1 then some (true)
   else(Bg k p0 p1 j) (AG (x3+(1:Int)))
   else none
   else M4 k
def Hk (k:Nat) (p0:ByteArray) (p1:Int):Option Bool:=
 Bg k p0 p1 k (0:Int)
theorem Ez {k:Nat} {p0:ByteArray} {p1:Int} {r:Bool} (h:Hk k p0 p1=some r):AY Tryz.prog 119 [(AN p0),(AK p1)] (AD r):=by
 rw[Hk.eq_1]at h;refine AY.intro (res:=[.tmp 4]) Tryz.func119 rfl rfl rfl (Nat.le_of_ble_eq_true rfl) ?_;refine .a 3 ?_;refine .nK [0,1] ?_;refine .seq_mid (fun ρ H=>ρ=[]∧H=[]∧M4 k=some r) ?_ ?_
 ·refine .a 5 ?_;refine .wK [0,1,5] ?_;refine .loop (fun kq ρ H=>∃ (x3:Int),ρ=[(0,(AN p0)),(1,(AK p1)),(5,(AB x3))]∧H=[]∧Bg k p0 p1 kq x3=some r) k ⟨(0:Int),rfl,rfl,h⟩ ?_;rintro kq5 _ _ ⟨x3,rfl,rfl,h⟩
  cases kq5 with
  | zero=>rw[Bg.eq_1]at h;cases h
  | succ kq5=>
  rw[Bg.eq_2]at h;generalize hrec4:Bg k p0 p1 kq5=rec4 at h;refine .a 8 ?_;rcases oi h with⟨c6,h⟩|⟨c6,h⟩
  ·refine .a 8 ?_;obtain⟨g7,h⟩:=AC h;refine .a 4 ?_;rcases oi h with⟨c8,h⟩|⟨c8,h⟩
   ·refine .a 4 ?_;refine .nK [4] ?_;refine .rK [4] ?_;have hr:=Option.some.inj h;subst hr;exact⟨[(AD true)],⟨rfl,rfl,trivial⟩,rfl⟩
   refine .a 6 ?_;refine .nK [0,1,5] ?_;exact⟨kq5,Nat.lt_succ_self _,(AG (x3+(1:Int))),rfl,rfl,by rw[hrec4];exact h⟩
  refine .a 1 ?_;refine .eK [] ?_;exact⟨rfl,rfl,h⟩
 rintro _ _ ⟨rfl,rfl,h⟩;rw[M4.eq_1]at h;refine .a 3 ?_;refine .nK [4] ?_;refine .rK [4] ?_;have hr:=Option.some.inj h;subst hr;exact⟨[(AD false)],⟨rfl,rfl,trivial⟩,rfl⟩
def Il (k:Nat) (x5:Int):Option Bool:=
 some (decide ((x5.tmod (2:Int))=(1:Int)))
def DZ (k:Nat) (p1:Int):Nat→Int→Int→Option Bool
 | 0,_,_=>none
 | j+1,x6,x7=>
   if x7<(p1.tmod (64:Int))then(DZ k p1 j) (IntKind.u64.wrap (x6.tdiv (2:Int))) (AG (x7+(1:Int)))
   else Il k x6
def PQ (k:Nat) (p0:(Vector Int 4)) (p1:Int):Option Bool:=
 if 0≤(IntKind.i64.wrap (p1.tdiv (64:Int)))∧(IntKind.i64.wrap (p1.tdiv (64:Int)))<(4:Int)then DZ k p1 k (AZ p0 (IntKind.i64.wrap (p1.tdiv (64:Int)))) (0:Int)
 else none
theorem IC {k:Nat} {p0:(Vector Int 4)} {p1:Int} {r:Bool} (h:PQ k p0 p1=some r):AY Tryz.prog 104 [(.ar 1 (p0.toList.map Ab)),(AB p1)] (AD r):=by
 rw[PQ.eq_1]at h;refine AY.intro (res:=[.tmp 4]) Tryz.func104 rfl rfl rfl (Nat.le_of_ble_eq_true rfl) ?_;refine .sr ?_;refine .box rfl 2 rfl (by decide) rfl rfl rfl fun n3=>?_;refine .a 5 ?_;refine .c (x:=AB (IntKind.i64.wrap (p1.tdiv (64:Int)))) (.quo rfl rfl rfl (by decide)) ?_;obtain⟨g4,h⟩:=AC h;refine .c (.idxP rfl rfl rfl g4 Tryz.underlying120 BX) ?_;refine .c (.load 0 rfl rfl rfl (.cast (.vidx (IntKind.i64.wrap (p1.tdiv (64:Int))) g4.1 g4.2 .here) (by omega)) GC BX) ?_;refine .ag rfl rfl ?_;refine .nS [1,5] [] ?_;refine .seq_mid (fun ρ H=>∃ (x5:Int),ρ=[(5,(Ab x5))]∧H=[]∧Il k x5=some r) ?_ ?_
 ·refine .a 5 ?_;refine .wK [1,5,6] ?_;refine .loop (fun kq ρ H=>∃ (x6:Int) (x7:Int),ρ=[(1,(AB p1)),(5,(Ab x6)),(6,(AB x7))]∧H=[]∧DZ k p1 kq x6 x7=some r) k ⟨(AZ p0 (IntKind.i64.wrap (p1.tdiv (64:Int)))),(0:Int),rfl,rfl,h⟩ ?_;rintro kq9 _ _ ⟨x6,x7,rfl,rfl,h⟩
  cases kq9 with
  | zero=>rw[DZ.eq_1]at h;cases h
  | succ kq9=>
  rw[DZ.eq_2]at h;generalize hrec8:DZ k p1 kq9=rec8 at h;refine .a 5 ?_;refine .c (x:=AB (p1.tmod (64:Int))) (.rem rfl rfl rfl (by decide)) ?_;refine .a 2 ?_;rcases oi h with⟨c10,h⟩|⟨c10,h⟩
  ·refine .a 6 ?_;refine .c (x:=Ab (IntKind.u64.wrap (x6.tdiv (2:Int)))) (.quo rfl rfl rfl (by decide)) ?_;refine .a 6 ?_;refine .nK [1,5,6] ?_;exact⟨kq9,Nat.lt_succ_self _,(IntKind.u64.wrap (x6.tdiv (2:Int))),(AG (x7+(1:Int))),rfl,rfl,by rw[hrec8];exact h⟩
  refine .a 1 ?_;refine .eK [5] ?_;exact⟨x6,rfl,rfl,h⟩
 rintro _ _ ⟨x5,rfl,rfl,h⟩;rw[Il.eq_1]at h;refine .a 3 ?_;refine .c (x:=Ab (x5.tmod (2:Int))) (.rem rfl rfl rfl (by decide)) ?_;refine .a 2 ?_;refine .nK [4] ?_;refine .rK [4] ?_;cases h;exact⟨[(AD (decide ((x5.tmod (2:Int))=(1:Int))))],⟨rfl,rfl,trivial⟩,rfl⟩
def Ij (k:Nat) (x4:(Vector Int 4)):Option (Vector Int 4):=
 some (x4)
def GL (k:Nat) (rec7:((Vector Int 4)→Int→Option (Vector Int 4))) (x6:Int) (x13:(Vector Int 4)):Option (Vector Int 4):=
 rec7 x13 (AG (x6+(1:Int)))
def Cy (k:Nat) (p0:(List Bool)):Nat→(Vector Int 4)→Int→Option (Vector Int 4)
 | 0,_,_=>none
 | j+1,x5,x6=>
   Option.bind (α:=Bool) (if x6<(256:Int)then some (decide (x6<(p0.length:Int)))
   else some (false)) fun b9=>
   if b9=true then if 0≤x6∧x6<(p0.length:Int)then if(AA p0 x6)=true then if 0≤(IntKind.i64.wrap (x6.tdiv (64:Int)))∧(IntKind.i64.wrap (x6.tdiv (64:Int)))<(4:Int)then if 0≤(u64 (x6.tmod (64:Int)))then if 0≤(IntKind.i64.wrap (x6.tdiv (64:Int)))∧(IntKind.i64.wrap (x6.tdiv (64:Int)))<(4:Int)then GL k (Cy k p0 j) x6 (BP x5 (IntKind.i64.wrap (x6.tdiv (64:Int))) (u64 ((AZ x5 (IntKind.i64.wrap (x6.tdiv (64:Int))))+(IntKind.u64.wrap ((1:Int)*2 ^ (min (u64 (x6.tmod (64:Int))).toNat IntKind.u64.bits))))))
   else none
   else none
   else none
   else GL k (Cy k p0 j) x6 x5
   else none
   else Ij k x5
def Nq (k:Nat) (p0:(List Bool)):Option (Vector Int 4):=
 Cy k p0 k (Vector.replicate 4 (0:Int)) (0:Int)
theorem Ht {k:Nat} {p0:(List Bool)} {r:(Vector Int 4)} (h:Nq k p0=some r):AY Tryz.prog 132 [(.fz 1 (p0.map AD))] (C7 r):=by
 rw[Nq.eq_1]at h;refine AY.intro (res:=[.cell 2 120]) Tryz.func132 rfl rfl rfl (Nat.le_of_ble_eq_true rfl) ?_;refine .sr ?_;refine .alloc rfl 2 rfl (by decide) rfl B8 Bj fun n2=>?_;refine .a 3 ?_;refine .alloc rfl 3 rfl (by decide) rfl B8 Bj fun n3=>?_;refine .nS [0,2,3] [1,0] ?_;refine .seq_mid (fun ρ H=>∃ (x4:(Vector Int 4)),ρ=[(2,(.ptr n2 0)),(3,(.ptr n3 0))]∧H=[(BM n2 ((Vector.replicate 4 (0:Int)).toList.map Ab)),(BM n3 (x4.toList.map Ab))]∧Ij k x4=some r) ?_ ?_
 ·refine .a 5 ?_;refine .wK [0,2,3,4] ?_;refine .loop (fun kq ρ H=>∃ (x5:(Vector Int 4)) (x6:Int),ρ=[(0,(.fz 1 (p0.map AD))),(2,(.ptr n2 0)),(3,(.ptr n3 0)),(4,(AB x6))]∧H=[(BM n2 ((Vector.replicate 4 (0:Int)).toList.map Ab)),(BM n3 (x5.toList.map Ab))]∧Cy k p0 kq x5 x6=some r) k ⟨(Vector.replicate 4 (0:Int)),(0:Int),rfl,rfl,h⟩ ?_;rintro kq8 _ _ ⟨x5,x6,rfl,rfl,h⟩
  cases kq8 with
  | zero=>rw[Cy.eq_1]at h;cases h
  | succ kq8=>
  rw[Cy.eq_2]at h;generalize hrec7:Cy k p0 kq8=rec7 at h;refine .a 2 ?_;obtain⟨b9,q10,h⟩:=ob h;refine .regM [(0,(.fz 1 (p0.map AD))),(2,(.ptr n2 0)),(3,(.ptr n3 0)),(4,(AB x6)),(12,(AD b9))] [(BM n2 ((Vector.replicate 4 (0:Int)).toList.map Ab)),(BM n3 (x5.toList.map Ab))] ?_ ?_
  ·refine .a 3 ?_;rcases oi q10 with⟨c11,q10⟩|⟨c11,q10⟩
   ·refine .a 5 ?_;cases q10;refine .nilE ⟨rfl,rfl⟩ ?_ ?_
    ·exact⟨rfl,rfl,rfl,rfl,rfl,trivial⟩
    exact(.refl _)
   refine .a 5 ?_;cases q10;refine .nilE ⟨rfl,rfl⟩ ?_ ?_
   ·exact⟨rfl,rfl,rfl,rfl,rfl,trivial⟩
   exact(.refl _)
  rcases oi h with⟨c12,h⟩|⟨c12,h⟩
  ·refine .a 1 ?_;refine .sK [0,2,3,4] ?_;refine .seq_mid (fun ρ H=>∃ (x13:(Vector Int 4)),ρ=[(0,(.fz 1 (p0.map AD))),(2,(.ptr n2 0)),(3,(.ptr n3 0)),(4,(AB x6))]∧H=[(BM n2 ((Vector.replicate 4 (0:Int)).toList.map Ab)),(BM n3 (x13.toList.map Ab))]∧GL k rec7 x6 x13=some r) ?_ ?_
   ·refine .a 5 ?_;obtain⟨g14,h⟩:=AC h;refine .a 3 ?_;rcases oi h with⟨c15,h⟩|⟨c15,h⟩
    ·refine .a 3 ?_;refine .c (x:=AB (IntKind.i64.wrap (x6.tdiv (64:Int)))) (.quo rfl rfl rfl (by decide)) ?_;refine .a 1 ?_;refine .c (x:=AB (IntKind.i64.wrap (x6.tdiv (64:Int)))) (.quo rfl rfl rfl (by decide)) ?_;obtain⟨g16,h⟩:=AC h;refine .c (.idxP rfl rfl rfl g16 Tryz.underlying120 BX) ?_;refine .c (.load 1 rfl rfl rfl (.cast (.vidx (IntKind.i64.wrap (x6.tdiv (64:Int))) g16.1 g16.2 .here) (by omega)) GC BX) ?_;refine .mv rfl rfl ?_;refine .c (x:=AB (x6.tmod (64:Int))) (.rem rfl rfl rfl (by decide)) ?_;refine .a 1 ?_;obtain⟨g17,h⟩:=AC h;refine .c (x:=Ab (IntKind.u64.wrap ((1:Int)*2 ^ (min (u64 (x6.tmod (64:Int))).toNat IntKind.u64.bits)))) (.shl rfl rfl rfl g17) ?_;refine .a 1 ?_;obtain⟨g18,h⟩:=AC h;refine .c (.idxP rfl rfl rfl g18 Tryz.underlying120 BX) ?_;refine .store 1 rfl rfl rfl rfl rfl rfl (.cast (.vidx (IntKind.i64.wrap (x6.tdiv (64:Int))) (u64 ((AZ x5 (IntKind.i64.wrap (x6.tdiv (64:Int))))+(IntKind.u64.wrap ((1:Int)*2 ^ (min (u64 (x6.tmod (64:Int))).toNat IntKind.u64.bits))))) g18.1 g18.2 .here) (by omega)) rfl rfl BX rfl ?_;refine .nK [0,2,3,4] ?_;exact⟨(BP x5 (IntKind.i64.wrap (x6.tdiv (64:Int))) (u64 ((AZ x5 (IntKind.i64.wrap (x6.tdiv (64:Int))))+(IntKind.u64.wrap ((1:Int)*2 ^ (min (u64 (x6.tmod (64:Int))).toNat IntKind.u64.bits)))))),rfl,rfl,h⟩
    refine .a 1 ?_;refine .sK [0,2,3,4] ?_;exact⟨x5,rfl,rfl,h⟩
   rintro _ _ ⟨x13,rfl,rfl,h⟩;rw[GL.eq_1]at h;refine .a 4 ?_;refine .nK [0,2,3,4] ?_;exact⟨kq8,Nat.lt_succ_self _,x13,(AG (x6+(1:Int))),rfl,rfl,by rw[hrec7];exact h⟩
  refine .a 1 ?_;refine .eK [2,3] ?_;exact⟨x5,rfl,rfl,h⟩
 rintro _ _ ⟨x4,rfl,rfl,h⟩;rw[Ij.eq_1]at h;refine .a 3 ?_;refine .store 0 rfl rfl rfl rfl rfl rfl (.cast .here rfl) rfl (by simp[AV.size]) (by rw[Br];simp[AV.size]) rfl ?_;refine .nS [2] [0] ?_;refine .rK [2] ?_;have hr:=Option.some.inj h;subst hr;exact⟨[(.ar 1 (x4.toList.map Ab))],⟨⟨_,0,rfl,rfl,HL,(by rw[Br];simp[AV.size])⟩,trivial⟩,rfl⟩
def GQ (k:Nat) (x8:(List Bool)):Option (Vector Int 4):=
 (Nq k x8).bind fun t9=>
 some (t9)
def CU (k:Nat) (rec13:((List Bool)→Int→Option (Vector Int 4))) (x12:Int) (x17:(List Bool)):Option (Vector Int 4):=
 rec13 x17 (AG (x12+(1:Int)))
def BW (k:Nat) (p0:Int) (p1:(Vector Int 4)) (p2:(Vector Int 4)):Nat→(List Bool)→Int→Option (Vector Int 4)
 | 0,_,_=>none
 | j+1,x11,x12=>
   if x12<(256:Int)then(PQ k p1 x12).bind fun t18=>
   (PQ k p2 x12).bind fun t19=>
   if p0=(0:Int)then if t18=true then if(x11++([true]:List Bool)).length*1≤140737488355328 then CU k (BW k p0 p1 p2 j) x12 (x11++([true]:List Bool))
   else none
   else if(x11++([t19]:List Bool)).length*1≤140737488355328 then CU k (BW k p0 p1 p2 j) x12 (x11++([t19]:List Bool))
   else none
   else if p0=(1:Int)then if t18=true then if(x11++([t19]:List Bool)).length*1≤140737488355328 then CU k (BW k p0 p1 p2 j) x12 (x11++([t19]:List Bool))
   else none
   else if(x11++([false]:List Bool)).length*1≤140737488355328 then CU k (BW k p0 p1 p2 j) x12 (x11++([false]:List Bool))
   else none
   else if p0=(2:Int)then if t18=true then if(x11++([!t19]:List Bool)).length*1≤140737488355328 then CU k (BW k p0 p1 p2 j) x12 (x11++([!t19]:List Bool))
   else none
   else if(x11++([false]:List Bool)).length*1≤140737488355328 then CU k (BW k p0 p1 p2 j) x12 (x11++([false]:List Bool))
   else none
   else if(x11++([!t18]:List Bool)).length*1≤140737488355328 then CU k (BW k p0 p1 p2 j) x12 (x11++([!t18]:List Bool))
   else none
   else GQ k x11
def Pp (k:Nat) (p0:Int) (p1:(Vector Int 4)) (p2:(Vector Int 4)):Option (Vector Int 4):=
 BW k p0 p1 p2 k ([]:List Bool) (0:Int)
theorem Kn {k:Nat} {p0:Int} {p1:(Vector Int 4)} {p2:(Vector Int 4)} {r:(Vector Int 4)} (h:Pp k p0 p1 p2=some r):AY Tryz.prog 129 [(AB p0),(.ar 1 (p1.toList.map Ab)),(.ar 1 (p2.toList.map Ab))] (C7 r):=by
 rw[Pp.eq_1]at h;refine AY.intro (res:=[.cell 6 120]) Tryz.func129 rfl rfl rfl (Nat.le_of_ble_eq_true rfl) ?_;refine .sr ?_;refine .box rfl 4 rfl (by decide) rfl rfl rfl fun n4=>?_;refine .box rfl 5 rfl (by decide) rfl rfl rfl fun n5=>?_;refine .alloc rfl 6 rfl (by decide) rfl B8 Bj fun n6=>?_;refine .nS [0,4,5,6] [2,1,0] ?_;refine .a 3 ?_;refine .nK [0,4,5,6,7] ?_;refine .seq_mid (fun ρ H=>∃ (n7:Nat) (x8:(List Bool)),ρ=[(6,(.ptr n6 0)),(7,(.own n7 0 x8.length))]∧H=[(BM n6 ((Vector.replicate 4 (0:Int)).toList.map Ab)),(Z9 n7 x8)]∧GQ k x8=some r) ?_ ?_
 ·refine .a 5 ?_;refine .nilOwn 7 1 rfl fun n47=>?_;refine .wH [0,4,5,6,7,8] (H':=[(BM n4 (p1.toList.map Ab)),(BM n5 (p2.toList.map Ab)),(BM n6 ((Vector.replicate 4 (0:Int)).toList.map Ab)),(Z9 n47 ([]:List Bool))]) (.cons 1 rfl (.cons 1 rfl (.cons 1 rfl (.cons 0 rfl (.nil _))))) ?_;refine .loop (fun kq ρ H=>∃ (n10:Nat) (x11:(List Bool)) (x12:Int),ρ=[(0,(AB p0)),(4,(.ptr n4 0)),(5,(.ptr n5 0)),(6,(.ptr n6 0)),(7,(.own n10 0 x11.length)),(8,(AB x12))]∧H=[(BM n4 (p1.toList.map Ab)),(BM n5 (p2.toList.map Ab)),(BM n6 ((Vector.replicate 4 (0:Int)).toList.map Ab)),(Z9 n10 x11)]∧BW k p0 p1 p2 kq x11 x12=some r) k ⟨n47,([]:List Bool),(0:Int),rfl,rfl,h⟩ ?_;rintro kq14 _ _ ⟨n10,x11,x12,rfl,rfl,h⟩
  cases kq14 with
  | zero=>rw[BW.eq_1]at h;cases h
  | succ kq14=>
  rw[BW.eq_2]at h;generalize hrec13:BW k p0 p1 p2 kq14=rec13 at h;refine .a 6 ?_;rcases oi h with⟨c15,h⟩|⟨c15,h⟩
  ·refine .a 1 ?_;refine .sK [0,4,5,6,7,8] ?_;refine .seq_mid (fun ρ H=>∃ (n16:Nat) (x17:(List Bool)),ρ=[(0,(AB p0)),(4,(.ptr n4 0)),(5,(.ptr n5 0)),(6,(.ptr n6 0)),(7,(.own n16 0 x17.length)),(8,(AB x12))]∧H=[(BM n4 (p1.toList.map Ab)),(BM n5 (p2.toList.map Ab)),(BM n6 ((Vector.replicate 4 (0:Int)).toList.map Ab)),(Z9 n16 x17)]∧CU k rec13 x12 x17=some r) ?_ ?_
   ·refine .a 2 ?_;refine .regQ (by rfl) (by decide+kernel) ?_;refine .a 2 ?_;obtain⟨t18,et18,h⟩:=ob h;refine .c (.call (args:=[(.ar 1 (p1.toList.map Ab)),(AB x12)]) rfl rfl SM ⟨rfl,rfl,rfl,rfl,trivial⟩ rfl (IC et18)) ?_;refine .a 2 ?_;obtain⟨t19,et19,h⟩:=ob h;refine .c (.call (args:=[(.ar 1 (p2.toList.map Ab)),(AB x12)]) rfl rfl SM ⟨rfl,rfl,rfl,rfl,trivial⟩ rfl (IC et19)) ?_;refine .c (.assign rfl rfl) ?_;refine .c (.assign rfl rfl) ?_;refine .nK [0,4,5,6,7,8,9,10] ?_;refine .sr ?_;refine .mv rfl rfl ?_;refine .nK [0,4,5,6,7,8,9,10,21] ?_;refine .block ?_;refine .sr ?_;refine .c (x:=AD (decide (p0=(0:Int)))) (.int rfl rfl rfl rfl) ?_;refine .ag rfl rfl ?_;refine .nK [0,4,5,6,7,8,9,10,21,27] ?_;rcases oi h with⟨c20,h⟩|⟨c20,h⟩
    ·refine .a 5 ?_;rcases oi h with⟨c21,h⟩|⟨c21,h⟩
     ·refine .a 2 ?_;refine .lit (Z:=(AD false)) (xs:=(([true]:List Bool).map AD)) (qs:=[(0,(AD true))]) rfl 34 rfl (by decide) rfl ⟨rfl,rfl,rfl,trivial⟩ Tryz.underlying95 Bw G3 D9 rfl (by decide) (An (z:=1) [(AD true)] rfl ⟨⟨rfl,rfl⟩,trivial⟩) rfl fun n22=>?_;obtain⟨g24,h⟩:=AC h;refine .appendL (l:=x11) (m:=([true]:List Bool)) 4 35 rfl (by decide) rfl rfl rfl rfl rfl (CS.ownL (f:=AD) (l:=([true]:List Bool)) 0 rfl) Tryz.underlying95 Tryz.underlying95 Bw KI G3 rfl g24 (by decide) fun n23=>?_;refine .a 1 ?_;refine .nS [0,4,5,6,7,8] [1,2,3,4] ?_;exact⟨n23,(x11++([true]:List Bool)),rfl,rfl,h⟩
     refine .a 2 ?_;refine .lit (Z:=(AD false)) (xs:=(([t19]:List Bool).map AD)) (qs:=[(0,(AD t19))]) rfl 34 rfl (by decide) rfl ⟨rfl,rfl,rfl,trivial⟩ Tryz.underlying95 Bw G3 D9 rfl (by decide) (An (z:=1) [(AD t19)] rfl ⟨⟨rfl,rfl⟩,trivial⟩) rfl fun n25=>?_;obtain⟨g27,h⟩:=AC h;refine .appendL (l:=x11) (m:=([t19]:List Bool)) 4 35 rfl (by decide) rfl rfl rfl rfl rfl (CS.ownL (f:=AD) (l:=([t19]:List Bool)) 0 rfl) Tryz.underlying95 Tryz.underlying95 Bw KI G3 rfl g27 (by decide) fun n26=>?_;refine .a 1 ?_;refine .nS [0,4,5,6,7,8] [1,2,3,4] ?_;exact⟨n26,(x11++([t19]:List Bool)),rfl,rfl,h⟩
    refine .a 6 ?_;rcases oi h with⟨c28,h⟩|⟨c28,h⟩
    ·refine .a 5 ?_;rcases oi h with⟨c29,h⟩|⟨c29,h⟩
     ·refine .a 2 ?_;refine .lit (Z:=(AD false)) (xs:=(([t19]:List Bool).map AD)) (qs:=[(0,(AD t19))]) rfl 43 rfl (by decide) rfl ⟨rfl,rfl,rfl,trivial⟩ Tryz.underlying95 Bw G3 D9 rfl (by decide) (An (z:=1) [(AD t19)] rfl ⟨⟨rfl,rfl⟩,trivial⟩) rfl fun n30=>?_;obtain⟨g32,h⟩:=AC h;refine .appendL (l:=x11) (m:=([t19]:List Bool)) 4 44 rfl (by decide) rfl rfl rfl rfl rfl (CS.ownL (f:=AD) (l:=([t19]:List Bool)) 0 rfl) Tryz.underlying95 Tryz.underlying95 Bw KI G3 rfl g32 (by decide) fun n31=>?_;refine .a 1 ?_;refine .nS [0,4,5,6,7,8] [1,2,3,4] ?_;exact⟨n31,(x11++([t19]:List Bool)),rfl,rfl,h⟩
     refine .a 2 ?_;refine .lit (Z:=(AD false)) (xs:=(([false]:List Bool).map AD)) (qs:=[(0,(AD false))]) rfl 43 rfl (by decide) rfl ⟨rfl,rfl,rfl,trivial⟩ Tryz.underlying95 Bw G3 D9 rfl (by decide) (An (z:=1) [(AD false)] rfl ⟨⟨rfl,rfl⟩,trivial⟩) rfl fun n33=>?_;obtain⟨g35,h⟩:=AC h;refine .appendL (l:=x11) (m:=([false]:List Bool)) 4 44 rfl (by decide) rfl rfl rfl rfl rfl (CS.ownL (f:=AD) (l:=([false]:List Bool)) 0 rfl) Tryz.underlying95 Tryz.underlying95 Bw KI G3 rfl g35 (by decide) fun n34=>?_;refine .a 1 ?_;refine .nS [0,4,5,6,7,8] [1,2,3,4] ?_;exact⟨n34,(x11++([false]:List Bool)),rfl,rfl,h⟩
    refine .a 6 ?_;rcases oi h with⟨c36,h⟩|⟨c36,h⟩
    ·refine .a 5 ?_;rcases oi h with⟨c37,h⟩|⟨c37,h⟩
     ·refine .a 3 ?_;refine .lit (Z:=(AD false)) (xs:=(([!t19]:List Bool).map AD)) (qs:=[(0,(AD (!t19)))]) rfl 53 rfl (by decide) rfl ⟨rfl,rfl,rfl,trivial⟩ Tryz.underlying95 Bw G3 D9 rfl (by decide) (An (z:=1) [(AD (!t19))] rfl ⟨⟨rfl,rfl⟩,trivial⟩) rfl fun n38=>?_;obtain⟨g40,h⟩:=AC h;refine .appendL (l:=x11) (m:=([!t19]:List Bool)) 4 54 rfl (by decide) rfl rfl rfl rfl rfl (CS.ownL (f:=AD) (l:=([!t19]:List Bool)) 0 rfl) Tryz.underlying95 Tryz.underlying95 Bw KI G3 rfl g40 (by decide) fun n39=>?_;refine .a 1 ?_;refine .nS [0,4,5,6,7,8] [1,2,3,4] ?_;exact⟨n39,(x11++([!t19]:List Bool)),rfl,rfl,h⟩
     refine .a 3 ?_;refine .lit (Z:=(AD false)) (xs:=(([false]:List Bool).map AD)) (qs:=[(0,(AD false))]) rfl 53 rfl (by decide) rfl ⟨rfl,rfl,rfl,trivial⟩ Tryz.underlying95 Bw G3 D9 rfl (by decide) (An (z:=1) [(AD false)] rfl ⟨⟨rfl,rfl⟩,trivial⟩) rfl fun n41=>?_;obtain⟨g43,h⟩:=AC h;refine .appendL (l:=x11) (m:=([false]:List Bool)) 4 54 rfl (by decide) rfl rfl rfl rfl rfl (CS.ownL (f:=AD) (l:=([false]:List Bool)) 0 rfl) Tryz.underlying95 Tryz.underlying95 Bw KI G3 rfl g43 (by decide) fun n42=>?_;refine .a 1 ?_;refine .nS [0,4,5,6,7,8] [1,2,3,4] ?_;exact⟨n42,(x11++([false]:List Bool)),rfl,rfl,h⟩
    refine .a 5 ?_;refine .lit (Z:=(AD false)) (xs:=(([!t18]:List Bool).map AD)) (qs:=[(0,(AD (!t18)))]) rfl 25 rfl (by decide) rfl ⟨rfl,rfl,rfl,trivial⟩ Tryz.underlying95 Bw G3 D9 rfl (by decide) (An (z:=1) [(AD (!t18))] rfl ⟨⟨rfl,rfl⟩,trivial⟩) rfl fun n44=>?_;obtain⟨g46,h⟩:=AC h;refine .appendL (l:=x11) (m:=([!t18]:List Bool)) 4 26 rfl (by decide) rfl rfl rfl rfl rfl (CS.ownL (f:=AD) (l:=([!t18]:List Bool)) 0 rfl) Tryz.underlying95 Tryz.underlying95 Bw KI G3 rfl g46 (by decide) fun n45=>?_;refine .a 1 ?_;refine .nS [0,4,5,6,7,8] [1,2,3,4] ?_;exact⟨n45,(x11++([!t18]:List Bool)),rfl,rfl,h⟩
   rintro _ _ ⟨n16,x17,rfl,rfl,h⟩;rw[CU.eq_1]at h;refine .a 4 ?_;refine .nK [0,4,5,6,7,8] ?_;exact⟨kq14,Nat.lt_succ_self _,n16,x17,(AG (x12+(1:Int))),rfl,rfl,by rw[hrec13];exact h⟩
  refine .a 1 ?_;refine .eH [6,7] (H':=[(BM n6 ((Vector.replicate 4 (0:Int)).toList.map Ab)),(Z9 n10 x11)]) (.cons 2 rfl (.cons 2 rfl (.nil _))) ?_;exact⟨n10,x11,rfl,rfl,h⟩
 rintro _ _ ⟨n7,x8,rfl,rfl,h⟩;rw[GQ.eq_1]at h;refine .a 3 ?_;obtain⟨t9,et9,h⟩:=ob h;refine .freezeS 1 [(7,(.fz 1 (x8.map AD))),(55,(.fz 1 (x8.map AD)))] rfl ⟨Aj rfl,Aj rfl,trivial⟩ ?_;refine .callS [(.fz 1 (x8.map AD))] (.ar 1 (t9.toList.map Ab)) 56 rfl (by decide) S4 rfl rfl rfl ⟨rfl,rfl,trivial⟩ (Ht et9) ?_;refine .store 0 rfl rfl rfl rfl rfl rfl (.cast .here rfl) rfl (by simp[AV.size]) (by rw[Br];simp[AV.size]) rfl ?_;refine .nK [6] ?_;refine .rK [6] ?_;have hr:=Option.some.inj h;subst hr;exact⟨[(.ar 1 (t9.toList.map Ab))],⟨⟨_,0,rfl,rfl,HL,(by rw[Br];simp[AV.size])⟩,trivial⟩,rfl⟩
def WH (k:Nat) (p0:Int) (p1:ByteArray):Option ByteArray:=
 (some (ByteArray.mk #[48,49,50,51,52,53,54,55,56,57,97,98,99,100,101,102])).bind fun x3=>
 if p0=(10:Int)then some ((ByteArray.mk #[92,110]))
 else if p0=(9:Int)then some ((ByteArray.mk #[92,116]))
 else if p0=(13:Int)then some ((ByteArray.mk #[92,114]))
 else Option.bind (α:=Bool) (if p0<(32:Int)then some (true)
 else some (decide ((126:Int)<p0))) fun b7=>
 if b7=true then if 0≤(IntKind.u8.wrap (p0.tdiv (16:Int)))∧(IntKind.u8.wrap (p0.tdiv (16:Int)))≤(w8 ((IntKind.u8.wrap (p0.tdiv (16:Int)))+(1:Int)))∧(w8 ((IntKind.u8.wrap (p0.tdiv (16:Int)))+(1:Int)))≤(x3.size:Int)then if(ByteArray.mk #[92,120]).size+(x3.extract (IntKind.u8.wrap (p0.tdiv (16:Int))).toNat (w8 ((IntKind.u8.wrap (p0.tdiv (16:Int)))+(1:Int))).toNat).size≤9223372036854775807 then if 0≤(p0.tmod (16:Int))∧(p0.tmod (16:Int))≤(w8 ((p0.tmod (16:Int))+(1:Int)))∧(w8 ((p0.tmod (16:Int))+(1:Int)))≤(x3.size:Int)then if((ByteArray.mk #[92,120])++(x3.extract (IntKind.u8.wrap (p0.tdiv (16:Int))).toNat (w8 ((IntKind.u8.wrap (p0.tdiv (16:Int)))+(1:Int))).toNat)).size+(x3.extract (p0.tmod (16:Int)).toNat (w8 ((p0.tmod (16:Int))+(1:Int))).toNat).size≤9223372036854775807 then some ((((ByteArray.mk #[92,120])++(x3.extract (IntKind.u8.wrap (p0.tdiv (16:Int))).toNat (w8 ((IntKind.u8.wrap (p0.tdiv (16:Int)))+(1:Int))).toNat))++(x3.extract (p0.tmod (16:Int)).toNat (w8 ((p0.tmod (16:Int))+(1:Int))).toNat)))
 else none
 else none
 else none
 else none
 else Option.bind (α:=Bool) (if p0=(92:Int)then some (true)
 else(Rg k p1 p0).bind fun t18=>
 some (t18)) fun b15=>
 if b15=true then if(ByteArray.mk #[92]).size+(strOfNums ([p0]:List Int)).size≤9223372036854775807 then some (((ByteArray.mk #[92])++(strOfNums ([p0]:List Int))))
 else none
 else some ((strOfNums ([p0]:List Int)))
theorem RJ {k:Nat} {p0:Int} {p1:ByteArray} {r:ByteArray} (h:WH k p0 p1=some r):AY Tryz.prog 137 [(AK p0),(AN p1)] (AN r):=by
 rw[WH.eq_1]at h;refine AY.intro (res:=[.tmp 4]) Tryz.func137 rfl rfl rfl (Nat.le_of_ble_eq_true rfl) ?_;refine .a 6 ?_;obtain⟨x3,ex3,h⟩:=ob h;refine .c (.assign rfl (congrArg (fun x=>some (AN x)) (Option.some.inj ex3))) ?_;refine .a 9 ?_;rcases oi h with⟨c4,h⟩|⟨c4,h⟩
 ·refine .a 4 ?_;refine .nK [4] ?_;refine .rK [4] ?_;cases h;exact⟨[(AN (ByteArray.mk #[92,110]))],⟨rfl,rfl,trivial⟩,rfl⟩
 refine .a 7 ?_;rcases oi h with⟨c5,h⟩|⟨c5,h⟩
 ·refine .a 4 ?_;refine .nK [4] ?_;refine .rK [4] ?_;cases h;exact⟨[(AN (ByteArray.mk #[92,116]))],⟨rfl,rfl,trivial⟩,rfl⟩
 refine .a 7 ?_;rcases oi h with⟨c6,h⟩|⟨c6,h⟩
 ·refine .a 4 ?_;refine .nK [4] ?_;refine .rK [4] ?_;cases h;exact⟨[(AN (ByteArray.mk #[92,114]))],⟨rfl,rfl,trivial⟩,rfl⟩
 refine .a 2 ?_;obtain⟨b7,q8,h⟩:=ob h;refine .regM [(0,(AK p0)),(1,(AN p1)),(5,(AN x3)),(15,(AD b7))] [] ?_ ?_
 ·refine .a 3 ?_;rcases oi q8 with⟨c9,q8⟩|⟨c9,q8⟩
  ·refine .a 4 ?_;cases q8;refine .nilE ⟨rfl,rfl⟩ ?_ ?_
   ·exact⟨rfl,rfl,rfl,rfl,trivial⟩
   exact(.refl _)
  refine .a 4 ?_;cases q8;refine .nilE ⟨rfl,rfl⟩ ?_ ?_
  ·exact⟨rfl,rfl,rfl,rfl,trivial⟩
  exact(.refl _)
 rcases oi h with⟨c10,h⟩|⟨c10,h⟩
 ·refine .a 2 ?_;refine .regQ (by rfl) (by decide+kernel) ?_;refine .a 2 ?_;refine .c (x:=AK (IntKind.u8.wrap (p0.tdiv (16:Int)))) (.quo rfl rfl rfl (by decide)) ?_;refine .a 1 ?_;refine .c (x:=AK (IntKind.u8.wrap (p0.tdiv (16:Int)))) (.quo rfl rfl rfl (by decide)) ?_;refine .a 1 ?_;obtain⟨g11,h⟩:=AC h;refine .c (x:=AN (x3.extract (IntKind.u8.wrap (p0.tdiv (16:Int))).toNat (w8 ((IntKind.u8.wrap (p0.tdiv (16:Int)))+(1:Int))).toNat)) (.sliceS rfl rfl rfl rfl g11 Tryz.underlying9) ?_;obtain⟨g12,h⟩:=AC h;refine .c (x:=AN ((ByteArray.mk #[92,120])++(x3.extract (IntKind.u8.wrap (p0.tdiv (16:Int))).toNat (w8 ((IntKind.u8.wrap (p0.tdiv (16:Int)))+(1:Int))).toNat))) (.cat rfl rfl rfl g12) ?_;refine .a 2 ?_;refine .c (x:=AK (p0.tmod (16:Int))) (.rem rfl rfl rfl (by decide)) ?_;refine .a 1 ?_;refine .c (x:=AK (p0.tmod (16:Int))) (.rem rfl rfl rfl (by decide)) ?_;refine .a 1 ?_;obtain⟨g13,h⟩:=AC h;refine .c (x:=AN (x3.extract (p0.tmod (16:Int)).toNat (w8 ((p0.tmod (16:Int))+(1:Int))).toNat)) (.sliceS rfl rfl rfl rfl g13 Tryz.underlying9) ?_;obtain⟨g14,h⟩:=AC h;refine .c (x:=AN (((ByteArray.mk #[92,120])++(x3.extract (IntKind.u8.wrap (p0.tdiv (16:Int))).toNat (w8 ((IntKind.u8.wrap (p0.tdiv (16:Int)))+(1:Int))).toNat))++(x3.extract (p0.tmod (16:Int)).toNat (w8 ((p0.tmod (16:Int))+(1:Int))).toNat))) (.cat rfl rfl rfl g14) ?_;refine .a 1 ?_;refine .nK [4] ?_;refine .rK [4] ?_;cases h
  exact⟨[(AN (((ByteArray.mk #[92,120])++(x3.extract (IntKind.u8.wrap (p0.tdiv (16:Int))).toNat (w8 ((IntKind.u8.wrap (p0.tdiv (16:Int)))+(1:Int))).toNat))++(x3.extract (p0.tmod (16:Int)).toNat (w8 ((p0.tmod (16:Int))+(1:Int))).toNat)))],⟨rfl,rfl,trivial⟩,rfl⟩
 refine .a 2 ?_;obtain⟨b15,q16,h⟩:=ob h;refine .regM [(0,(AK p0)),(38,(AD b15))] [] ?_ ?_
 ·refine .a 3 ?_;rcases oi q16 with⟨c17,q16⟩|⟨c17,q16⟩
  ·refine .a 5 ?_;cases q16;refine .nilE ⟨rfl,rfl⟩ ?_ ?_
   ·exact⟨rfl,rfl,trivial⟩
   exact(.refl _)
  refine .a 2 ?_;obtain⟨t18,et18,q16⟩:=ob q16;refine .callG 2 false 41 [(AN p1),(AK p0)] (AD t18) 44 rfl (by decide) Q7 rfl rfl (bD (decide_eq_false c17)) rfl rfl ⟨rfl,rfl,rfl,rfl,trivial⟩ (GZ et18) ?_;refine .a 2 ?_;cases q16;refine .nilE ⟨rfl,rfl⟩ ?_ ?_
  ·exact⟨rfl,rfl,trivial⟩
  exact(.refl _)
 rcases oi h with⟨c19,h⟩|⟨c19,h⟩
 ·refine .a 4 ?_;refine .lit (Z:=(AK (0:Int))) (xs:=(([p0]:List Int).map AK)) (qs:=[(0,(AK p0))]) rfl 47 rfl (by decide) rfl ⟨rfl,rfl,rfl,trivial⟩ Tryz.underlying130 Ew Wv PL rfl (by decide) (An (z:=1) [(AK p0)] rfl ⟨⟨rfl,rfl⟩,trivial⟩) rfl fun n20=>?_;refine .c (x:=AN (strOfNums ([p0]:List Int))) (.strO 0 rfl rfl rfl Tryz.underlying130 Tryz.underlying9 Tryz.underlying5) ?_;obtain⟨g21,h⟩:=AC h;refine .c (x:=AN ((ByteArray.mk #[92])++(strOfNums ([p0]:List Int)))) (.cat rfl rfl rfl g21) ?_;refine .a 1 ?_;refine .nS [4] [] ?_;refine .rK [4] ?_;cases h;exact⟨[(AN ((ByteArray.mk #[92])++(strOfNums ([p0]:List Int))))],⟨rfl,rfl,trivial⟩,rfl⟩
 refine .a 5 ?_;refine .lit (Z:=(AK (0:Int))) (xs:=(([p0]:List Int).map AK)) (qs:=[(0,(AK p0))]) rfl 51 rfl (by decide) rfl ⟨rfl,rfl,rfl,trivial⟩ Tryz.underlying130 Ew Wv PL rfl (by decide) (An (z:=1) [(AK p0)] rfl ⟨⟨rfl,rfl⟩,trivial⟩) rfl fun n22=>?_;refine .c (x:=AN (strOfNums ([p0]:List Int))) (.strO 0 rfl rfl rfl Tryz.underlying130 Tryz.underlying9 Tryz.underlying5) ?_;refine .a 1 ?_;refine .nS [4] [] ?_;refine .rK [4] ?_;cases h;exact⟨[(AN (strOfNums ([p0]:List Int)))],⟨rfl,rfl,trivial⟩,rfl⟩
def FW (k:Nat) (p0:ByteArray):Option (Int×Int×Bool):=
 Option.bind (α:=Bool) (if(1:Int)<(p0.size:Int)then if 0≤(1:Int)∧(1:Int)<(p0.size:Int)then if(32:Int)≤(AF p0 (1:Int))then if 0≤(1:Int)∧(1:Int)<(p0.size:Int)then if(AF p0 (1:Int))≤(126:Int)then if 0≤(1:Int)∧(1:Int)<(p0.size:Int)then(Te k (AF p0 (1:Int))).bind fun t14=>
 some (!t14)
 else none
 else some (false)
 else none
 else some (false)
 else none
 else some (false)) fun b6=>
 if b6=true then if 0≤(1:Int)∧(1:Int)<(p0.size:Int)then some ((AF p0 (1:Int)),(2:Int),true)
 else none
 else some ((0:Int),(0:Int),false)
def Bf (k:Nat) (p0:ByteArray):Nat→Int→Option (Int×Int×Bool)
 | 0,_=>none
 | j+1,x17=>
   if x17<(256:Int)then(WH k (w8 x17) (ByteArray.mk #[])).bind fun t21=>
   Option.bind (α:=Bool) (if(t21.size:Int)=(2:Int)then if 0≤(1:Int)∧(1:Int)<(t21.size:Int)then if(AF t21 (1:Int))≠(92:Int)then if(1:Int)<(p0.size:Int)then if 0≤(0:Int)∧(0:Int)≤(2:Int)∧(2:Int)≤(p0.size:Int)then some (decide ((p0.extract (0:Int).toNat (2:Int).toNat)=t21))
   else none
   else some (false)
   else some (false)
   else none
   else some (false)) fun b22=>
   if b22=true then some ((w8 x17),(2:Int),true)
   else if 0≤(IntKind.i64.wrap (x17.tdiv (16:Int)))∧(IntKind.i64.wrap (x17.tdiv (16:Int)))≤(AG ((IntKind.i64.wrap (x17.tdiv (16:Int)))+(1:Int)))∧(AG ((IntKind.i64.wrap (x17.tdiv (16:Int)))+(1:Int)))≤((ByteArray.mk #[48,49,50,51,52,53,54,55,56,57,97,98,99,100,101,102]).size:Int)then if(ByteArray.mk #[92,120]).size+((ByteArray.mk #[48,49,50,51,52,53,54,55,56,57,97,98,99,100,101,102]).extract (IntKind.i64.wrap (x17.tdiv (16:Int))).toNat (AG ((IntKind.i64.wrap (x17.tdiv (16:Int)))+(1:Int))).toNat).size≤9223372036854775807 then if 0≤(x17.tmod (16:Int))∧(x17.tmod (16:Int))≤(AG ((x17.tmod (16:Int))+(1:Int)))∧(AG ((x17.tmod (16:Int))+(1:Int)))≤((ByteArray.mk #[48,49,50,51,52,53,54,55,56,57,97,98,99,100,101,102]).size:Int)then if((ByteArray.mk #[92,120])++((ByteArray.mk #[48,49,50,51,52,53,54,55,56,57,97,98,99,100,101,102]).extract (IntKind.i64.wrap (x17.tdiv (16:Int))).toNat (AG ((IntKind.i64.wrap (x17.tdiv (16:Int)))+(1:Int))).toNat)).size+((ByteArray.mk #[48,49,50,51,52,53,54,55,56,57,97,98,99,100,101,102]).extract (x17.tmod (16:Int)).toNat (AG ((x17.tmod (16:Int))+(1:Int))).toNat).size≤9223372036854775807 then Option.bind (α:=Bool) (if(3:Int)<(p0.size:Int)then if 0≤(0:Int)∧(0:Int)≤(4:Int)∧(4:Int)≤(p0.size:Int)then some (decide ((p0.extract (0:Int).toNat (4:Int).toNat)=(((ByteArray.mk #[92,120])++((ByteArray.mk #[48,49,50,51,52,53,54,55,56,57,97,98,99,100,101,102]).extract (IntKind.i64.wrap (x17.tdiv (16:Int))).toNat (AG ((IntKind.i64.wrap (x17.tdiv (16:Int)))+(1:Int))).toNat))++((ByteArray.mk #[48,49,50,51,52,53,54,55,56,57,97,98,99,100,101,102]).extract (x17.tmod (16:Int)).toNat (AG ((x17.tmod (16:Int))+(1:Int))).toNat))))
   else none
   else some (false)) fun b34=>
   if b34=true then some ((w8 x17),(4:Int),true)
   else(Bf k p0 j) (AG (x17+(1:Int)))
   else none
   else none
   else none
   else none
   else FW k p0
def NB (k:Nat) (p0:ByteArray):Option (Int×Int×Bool):=
 if p0=(ByteArray.mk #[])then some ((0:Int),(0:Int),false)
 else if 0≤(0:Int)∧(0:Int)<(p0.size:Int)then if(AF p0 (0:Int))≠(92:Int)then if 0≤(0:Int)∧(0:Int)<(p0.size:Int)then some ((AF p0 (0:Int)),(1:Int),true)
 else none
 else Bf k p0 k (0:Int)
 else none
theorem IJ {k:Nat} {p0:ByteArray} {r:(Int×Int×Bool)} (h:NB k p0=some r):AY Tryz.prog 131 [(AN p0)] (.tup [(AK r.1),(AB r.2.1),(AD r.2.2)]):=by
 rw[NB.eq_1]at h;refine AY.intro (res:=[.tmp 2,.tmp 3,.tmp 4]) Tryz.func131 rfl rfl rfl (Nat.le_of_ble_eq_true rfl) ?_;refine .a 12 ?_;rcases oi h with⟨c2,h⟩|⟨c2,h⟩
 ·refine .a 6 ?_;refine .nK [2,3,4] ?_;refine .rK [2,3,4] ?_;have hr:=Option.some.inj h;subst hr;exact⟨[(AK (0:Int)),(AB (0:Int)),(AD false)],⟨rfl,rfl,rfl,rfl,rfl,rfl,trivial⟩,rfl⟩
 refine .a 6 ?_;obtain⟨g3,h⟩:=AC h;refine .a 3 ?_;rcases oi h with⟨c4,h⟩|⟨c4,h⟩
 ·refine .a 4 ?_;obtain⟨g5,h⟩:=AC h;refine .a 4 ?_;refine .nK [2,3,4] ?_;refine .rK [2,3,4] ?_;have hr:=Option.some.inj h;subst hr;exact⟨[(AK (AF p0 (0:Int))),(AB (1:Int)),(AD true)],⟨rfl,rfl,rfl,rfl,rfl,rfl,trivial⟩,rfl⟩
 refine .a 1 ?_;refine .sK [0] ?_;refine .seq_mid (fun ρ H=>ρ=[(0,(AN p0))]∧H=[]∧FW k p0=some r) ?_ ?_
 ·refine .a 5 ?_;refine .wK [0,5] ?_;refine .loop (fun kq ρ H=>∃ (x17:Int),ρ=[(0,(AN p0)),(5,(AB x17))]∧H=[]∧Bf k p0 kq x17=some r) k ⟨(0:Int),rfl,rfl,h⟩ ?_;rintro kq19 _ _ ⟨x17,rfl,rfl,h⟩
  cases kq19 with
  | zero=>rw[Bf.eq_1]at h;cases h
  | succ kq19=>
  rw[Bf.eq_2]at h;generalize hrec18:Bf k p0 kq19=rec18 at h;refine .a 6 ?_;rcases oi h with⟨c20,h⟩|⟨c20,h⟩
  ·refine .a 8 ?_;obtain⟨t21,et21,h⟩:=ob h;refine .callS [(AK (w8 x17)),(AN (ByteArray.mk #[]))] (AN t21) 21 rfl (by decide) ZT rfl rfl rfl ⟨rfl,rfl,rfl,rfl,trivial⟩ (RJ et21) ?_;refine .a 4 ?_;obtain⟨b22,q23,h⟩:=ob h;refine .regM [(0,(AN p0)),(5,(AB x17)),(40,(AD b22))] [] ?_ ?_
   ·refine .a 4 ?_;rcases oi q23 with⟨c24,q23⟩|⟨c24,q23⟩
    ·refine .a 1 ?_;obtain⟨g25,q23⟩:=AC q23;refine .a 4 ?_;rcases oi q23 with⟨c26,q23⟩|⟨c26,q23⟩
     ·refine .a 5 ?_;rcases oi q23 with⟨c27,q23⟩|⟨c27,q23⟩
      ·refine .a 1 ?_;obtain⟨g28,q23⟩:=AC q23;refine .cG (x:=AN (p0.extract (0:Int).toNat (2:Int).toNat)) rfl rfl (bD (decide_eq_true c27)) (.sliceS rfl rfl rfl rfl g28 Tryz.underlying9) ?_;refine .a 3 ?_;cases q23;refine .nilE ⟨rfl,rfl⟩ ?_ ?_
       ·exact⟨rfl,rfl,rfl,trivial⟩
       exact(.refl _)
      refine .a 5 ?_;cases q23;refine .nilE ⟨rfl,rfl⟩ ?_ ?_
      ·exact⟨rfl,rfl,rfl,trivial⟩
      exact(.refl _)
     refine .a 10 ?_;cases q23;refine .nilE ⟨rfl,rfl⟩ ?_ ?_
     ·exact⟨rfl,rfl,rfl,trivial⟩
     exact(.refl _)
    refine .a 15 ?_;cases q23;refine .nilE ⟨rfl,rfl⟩ ?_ ?_
    ·exact⟨rfl,rfl,rfl,trivial⟩
    exact(.refl _)
   rcases oi h with⟨c29,h⟩|⟨c29,h⟩
   ·refine .a 8 ?_;refine .nK [2,3,4] ?_;refine .rK [2,3,4] ?_;have hr:=Option.some.inj h;subst hr;exact⟨[(AK (w8 x17)),(AB (2:Int)),(AD true)],⟨rfl,rfl,rfl,rfl,rfl,rfl,trivial⟩,rfl⟩
   refine .a 3 ?_;refine .regQ (by rfl) (by decide+kernel) ?_;refine .a 1 ?_;refine .c (x:=AB (IntKind.i64.wrap (x17.tdiv (16:Int)))) (.quo rfl rfl rfl (by decide)) ?_;refine .a 1 ?_;refine .c (x:=AB (IntKind.i64.wrap (x17.tdiv (16:Int)))) (.quo rfl rfl rfl (by decide)) ?_;refine .a 1 ?_;obtain⟨g30,h⟩:=AC h;refine .c (x:=AN ((ByteArray.mk #[48,49,50,51,52,53,54,55,56,57,97,98,99,100,101,102]).extract (IntKind.i64.wrap (x17.tdiv (16:Int))).toNat (AG ((IntKind.i64.wrap (x17.tdiv (16:Int)))+(1:Int))).toNat)) (.sliceS rfl rfl rfl rfl g30 Tryz.underlying9) ?_;obtain⟨g31,h⟩:=AC h;refine .c (x:=AN ((ByteArray.mk #[92,120])++((ByteArray.mk #[48,49,50,51,52,53,54,55,56,57,97,98,99,100,101,102]).extract (IntKind.i64.wrap (x17.tdiv (16:Int))).toNat (AG ((IntKind.i64.wrap (x17.tdiv (16:Int)))+(1:Int))).toNat))) (.cat rfl rfl rfl g31) ?_;refine .a 1 ?_;refine .c (x:=AB (x17.tmod (16:Int))) (.rem rfl rfl rfl (by decide)) ?_;refine .a 1 ?_;refine .c (x:=AB (x17.tmod (16:Int))) (.rem rfl rfl rfl (by decide)) ?_;refine .a 1 ?_;obtain⟨g32,h⟩:=AC h;refine .c (x:=AN ((ByteArray.mk #[48,49,50,51,52,53,54,55,56,57,97,98,99,100,101,102]).extract (x17.tmod (16:Int)).toNat (AG ((x17.tmod (16:Int))+(1:Int))).toNat)) (.sliceS rfl rfl rfl rfl g32 Tryz.underlying9) ?_;obtain⟨g33,h⟩:=AC h
   refine .c (x:=AN (((ByteArray.mk #[92,120])++((ByteArray.mk #[48,49,50,51,52,53,54,55,56,57,97,98,99,100,101,102]).extract (IntKind.i64.wrap (x17.tdiv (16:Int))).toNat (AG ((IntKind.i64.wrap (x17.tdiv (16:Int)))+(1:Int))).toNat))++((ByteArray.mk #[48,49,50,51,52,53,54,55,56,57,97,98,99,100,101,102]).extract (x17.tmod (16:Int)).toNat (AG ((x17.tmod (16:Int))+(1:Int))).toNat))) (.cat rfl rfl rfl g33) ?_;refine .a 3 ?_;obtain⟨b34,q35,h⟩:=ob h;refine .regM [(0,(AN p0)),(5,(AB x17)),(65,(AD b34))] [] ?_ ?_
   ·refine .a 4 ?_;rcases oi q35 with⟨c36,q35⟩|⟨c36,q35⟩
    ·refine .a 1 ?_;obtain⟨g37,q35⟩:=AC q35;refine .cG (x:=AN (p0.extract (0:Int).toNat (4:Int).toNat)) rfl rfl (bD (decide_eq_true c36)) (.sliceS rfl rfl rfl rfl g37 Tryz.underlying9) ?_;refine .a 3 ?_;cases q35;refine .nilE ⟨rfl,rfl⟩ ?_ ?_
     ·exact⟨rfl,rfl,rfl,trivial⟩
     exact(.refl _)
    refine .sT rfl rfl (bD (decide_eq_false c36)) ?_;refine .sT rfl rfl (bD (decide_eq_false c36)) ?_;refine .sT rfl rfl (bD (decide_eq_false c36)) ?_;refine .sT rfl rfl (bD (decide_eq_false c36)) ?_;refine .c (.pickF rfl (bD (decide_eq_false c36)) rfl) ?_;cases q35;refine .nilE ⟨rfl,rfl⟩ ?_ ?_
    ·exact⟨rfl,rfl,rfl,trivial⟩
    exact(.refl _)
   rcases oi h with⟨c38,h⟩|⟨c38,h⟩
   ·refine .condT' _ rfl c38 ?_;refine .sr ?_;refine .mv rfl rfl ?_;refine .c (x:=AK (w8 x17)) (.conv rfl rfl Tryz.underlying3 Tryz.underlying5) ?_;refine .ag rfl rfl ?_;refine .ag rfl rfl ?_;refine .ag rfl rfl ?_;refine .nK [2,3,4] ?_;refine .rK [2,3,4] ?_;have hr:=Option.some.inj h;subst hr;exact⟨[(AK (w8 x17)),(AB (4:Int)),(AD true)],⟨rfl,rfl,rfl,rfl,rfl,rfl,trivial⟩,rfl⟩
   refine .a 6 ?_;refine .nK [0,5] ?_;exact⟨kq19,Nat.lt_succ_self _,(AG (x17+(1:Int))),rfl,rfl,by rw[hrec18];exact h⟩
  refine .a 1 ?_;refine .eK [0] ?_;exact⟨rfl,rfl,h⟩
 rintro _ _ ⟨rfl,rfl,h⟩;rw[FW.eq_1]at h;refine .a 2 ?_;obtain⟨b6,q7,h⟩:=ob h;refine .regM [(0,(AN p0)),(86,(AD b6))] [] ?_ ?_
 ·refine .a 4 ?_;rcases oi q7 with⟨c8,q7⟩|⟨c8,q7⟩
  ·refine .a 1 ?_;obtain⟨g9,q7⟩:=AC q7;refine .a 4 ?_;rcases oi q7 with⟨c10,q7⟩|⟨c10,q7⟩
   ·refine .a 1 ?_;obtain⟨g11,q7⟩:=AC q7;refine .a 4 ?_;rcases oi q7 with⟨c12,q7⟩|⟨c12,q7⟩
    ·refine .a 1 ?_;obtain⟨g13,q7⟩:=AC q7;refine .a 1 ?_;obtain⟨t14,et14,q7⟩:=ob q7;refine .callG 13 true 81 [(AK (AF p0 (1:Int)))] (AD t14) 84 rfl (by decide) Wf rfl rfl (bD (decide_eq_true c12)) rfl rfl ⟨rfl,rfl,trivial⟩ (LD et14) ?_;refine .a 2 ?_;cases q7;refine .nilE ⟨rfl,rfl⟩ ?_ ?_
     ·exact⟨rfl,rfl,trivial⟩
     exact(.refl _)
    refine .a 5 ?_;cases q7;refine .nilE ⟨rfl,rfl⟩ ?_ ?_
    ·exact⟨rfl,rfl,trivial⟩
    exact(.refl _)
   refine .a 10 ?_;cases q7;refine .nilE ⟨rfl,rfl⟩ ?_ ?_
   ·exact⟨rfl,rfl,trivial⟩
   exact(.refl _)
  refine .a 15 ?_;cases q7;refine .nilE ⟨rfl,rfl⟩ ?_ ?_
  ·exact⟨rfl,rfl,trivial⟩
  exact(.refl _)
 rcases oi h with⟨c15,h⟩|⟨c15,h⟩
 ·refine .a 4 ?_;obtain⟨g16,h⟩:=AC h;refine .a 4 ?_;refine .nK [2,3,4] ?_;refine .rK [2,3,4] ?_;have hr:=Option.some.inj h;subst hr;exact⟨[(AK (AF p0 (1:Int))),(AB (2:Int)),(AD true)],⟨rfl,rfl,rfl,rfl,rfl,rfl,trivial⟩,rfl⟩
 refine .a 7 ?_;refine .nK [2,3,4] ?_;refine .rK [2,3,4] ?_;have hr:=Option.some.inj h;subst hr;exact⟨[(AK (0:Int)),(AB (0:Int)),(AD false)],⟨rfl,rfl,rfl,rfl,rfl,rfl,trivial⟩,rfl⟩
def GY (k:Nat) (p0:ByteArray) (x10:Int) (x14:(Vector Int 4)):Option ((List AE)×Int):=
 Option.bind (α:=Bool) (if(p0.size:Int)≤x10 then some (true)
 else some (decide (x14=(Vector.replicate 4 (0:Int))))) fun b15=>
 if b15=true then some ([],x10)
 else some ([(AE.mk (1:Int) x14)],(AG (x10+(1:Int))))
def IZ (k:Nat) (p0:ByteArray) (b5:Bool) (x10:Int) (x11:(List Bool)):Option ((List AE)×Int):=
 (Nq k x11).bind fun t12=>
 if b5=true then(Pp k (3:Int) t12 t12).bind fun t21=>
 GY k p0 x10 t21
 else GY k p0 x10 t12
def Cs (k:Nat) (rec24:(Int→(List Bool)→Option ((List AE)×Int))) (x39:Int) (x40:Int):Nat→(List Bool)→Int→Option ((List AE)×Int)
 | 0,_,_=>none
 | j+1,x41,x42=>
   if x42≤(AG x40)then if 0≤x42∧x42<(x41.length:Int)then(Cs k rec24 x39 x40 j) (AU x41 x42 true) (AG (x42+(1:Int)))
   else none
   else rec24 x39 x41
def FL (k:Nat) (rec24:(Int→(List Bool)→Option ((List AE)×Int))) (x23:(List Bool)) (t32:(Int×Int×Bool)) (x39:Int) (x40:Int):Option ((List AE)×Int):=
 Cs k rec24 x39 x40 k x23 (AG t32.1)
def Cd (k:Nat) (p0:ByteArray) (b5:Bool):Nat→Int→(List Bool)→Option ((List AE)×Int)
 | 0,_,_=>none
 | j+1,x22,x23=>
   Option.bind (α:=Bool) (if x22<(p0.size:Int)then if 0≤x22∧x22<(p0.size:Int)then some (decide ((AF p0 x22)≠(93:Int)))
   else none
   else some (false)) fun b26=>
   if b26=true then if 0≤x22∧x22≤(p0.size:Int)∧(p0.size:Int)≤(p0.size:Int)then(NB k (p0.extract x22.toNat (p0.size:Int).toNat)).bind fun t32=>
   Option.bind (α:=Bool) (if(!t32.2.2)=true then some (true)
   else if 0≤x22∧x22<(p0.size:Int)then(Hk k (ByteArray.mk #[94,45,47,34]) (AF p0 x22)).bind fun t37=>
   some (t37)
   else none) fun b33=>
   if b33=true then some ([],x22)
   else Option.bind (α:=Bool) (if(AG (x22+t32.2.1))<(p0.size:Int)then if 0≤(AG (x22+t32.2.1))∧(AG (x22+t32.2.1))<(p0.size:Int)then some (decide ((AF p0 (AG (x22+t32.2.1)))=(45:Int)))
   else none
   else some (false)) fun b47=>
   if b47=true then Option.bind (α:=Bool) (if(p0.size:Int)≤(AG ((AG (x22+t32.2.1))+(1:Int)))then some (true)
   else if 0≤(AG ((AG (x22+t32.2.1))+(1:Int)))∧(AG ((AG (x22+t32.2.1))+(1:Int)))<(p0.size:Int)then(Hk k (ByteArray.mk #[93,94,45,47,34]) (AF p0 (AG ((AG (x22+t32.2.1))+(1:Int))))).bind fun t56=>
   some (t56)
   else none) fun b52=>
   if b52=true then some ([],(AG ((AG (x22+t32.2.1))+(1:Int))))
   else if 0≤(AG ((AG (x22+t32.2.1))+(1:Int)))∧(AG ((AG (x22+t32.2.1))+(1:Int)))≤(p0.size:Int)∧(p0.size:Int)≤(p0.size:Int)then(NB k (p0.extract (AG ((AG (x22+t32.2.1))+(1:Int))).toNat (p0.size:Int).toNat)).bind fun t59=>
   Option.bind (α:=Bool) (if(!t59.2.2)=true then some (true)
   else some (decide (t59.1<t32.1))) fun b60=>
   if b60=true then some ([],(AG ((AG (x22+t32.2.1))+(1:Int))))
   else FL k (Cd k p0 b5 j) x23 t32 (AG ((AG ((AG (x22+t32.2.1))+(1:Int)))+t59.2.1)) t59.1
   else none
   else FL k (Cd k p0 b5 j) x23 t32 (AG (x22+t32.2.1)) t32.1
   else none
   else IZ k p0 b5 x22 x23
def Iq (k:Nat) (p0:ByteArray) (b5:Bool) (x9:Int):Option ((List AE)×Int):=
 Cd k p0 b5 k x9 (List.replicate (256:Int).toNat false)
def Tk (k:Nat) (p0:ByteArray) (p1:Int):Option ((List AE)×Int):=
 if 0≤(256:Int)∧(256:Int)*(1:Int)≤140737488355328∧(256:Int)≤9223372036854775807 then Option.bind (α:=Bool) (if p1<(p0.size:Int)then if 0≤p1∧p1<(p0.size:Int)then some (decide ((AF p0 p1)=(94:Int)))
 else none
 else some (false)) fun b5=>
 if b5=true then Iq k p0 b5 (AG (p1+(1:Int)))
 else Iq k p0 b5 p1
 else none
theorem RI {k:Nat} {p0:ByteArray} {p1:Int} {r:((List AE)×Int)} (h:Tk k p0 p1=some r):AY Tryz.prog 130 [(AN p0),(AB p1)] (.tup [(nz 5 (r.1.map AM)),(AB r.2)]):=by
 rw[Tk.eq_1]at h;refine AY.intro (res:=[.tmp 4,.tmp 5]) Tryz.func130 rfl rfl rfl (Nat.le_of_ble_eq_true rfl) ?_;refine .a 7 ?_;obtain⟨g4,h⟩:=AC h;refine .makeL (f:=AD) false rfl 14 rfl (by decide) rfl rfl rfl Tryz.underlying95 Bw KI G3 D9 rfl g4 fun n3=>?_;refine .a 3 ?_;obtain⟨b5,q6,h⟩:=ob h;refine .regM [(0,(AN p0)),(1,(AB p1)),(6,(BL n3 (List.replicate (256:Int).toNat false).length)),(7,(AD b5))] [(Z9 n3 (List.replicate (256:Int).toNat false))] ?_ ?_
 ·refine .a 5 ?_;rcases oi q6 with⟨c7,q6⟩|⟨c7,q6⟩
  ·refine .a 2 ?_;obtain⟨g8,q6⟩:=AC q6;refine .a 4 ?_;cases q6;refine .nilE ⟨rfl,rfl⟩ ?_ ?_
   ·exact⟨rfl,rfl,rfl,rfl,trivial⟩
   exact(.refl _)
  refine .a 6 ?_;cases q6;refine .nilE ⟨rfl,rfl⟩ ?_ ?_
  ·exact⟨rfl,rfl,rfl,rfl,trivial⟩
  exact(.refl _)
 refine .seq_mid (fun ρ H=>∃ (x9:Int),ρ=[(0,(AN p0)),(1,(AB x9)),(6,(BL n3 (List.replicate (256:Int).toNat false).length)),(7,(AD b5))]∧H=[(Z9 n3 (List.replicate (256:Int).toNat false))]∧Iq k p0 b5 x9=some r) ?_ ?_
 ·refine .a 4 ?_;rcases oi h with⟨c64,h⟩|⟨c64,h⟩
  ·refine .a 5 ?_;refine .nK [0,1,6,7] ?_;exact⟨(AG (p1+(1:Int))),rfl,rfl,h⟩
  refine .a 1 ?_;refine .sK [0,1,6,7] ?_;exact⟨p1,rfl,rfl,h⟩
 rintro _ _ ⟨x9,rfl,rfl,h⟩;rw[Iq.eq_1]at h;refine .seq_mid (fun ρ H=>∃ (x10:Int) (x11:(List Bool)),ρ=[(0,(AN p0)),(1,(AB x10)),(6,(.own n3 0 x11.length)),(7,(AD b5))]∧H=[(Z9 n3 x11)]∧IZ k p0 b5 x10 x11=some r) ?_ ?_
 ·refine .a 1 ?_;refine .wK [0,1,6,7] ?_;refine .loop (fun kq ρ H=>∃ (x22:Int) (x23:(List Bool)),ρ=[(0,(AN p0)),(1,(AB x22)),(6,(.own n3 0 x23.length)),(7,(AD b5))]∧H=[(Z9 n3 x23)]∧Cd k p0 b5 kq x22 x23=some r) k ⟨x9,(List.replicate (256:Int).toNat false),rfl,rfl,h⟩ ?_;rintro kq25 _ _ ⟨x22,x23,rfl,rfl,h⟩
  cases kq25 with
  | zero=>rw[Cd.eq_1]at h;cases h
  | succ kq25=>
  rw[Cd.eq_2]at h;generalize hrec24:Cd k p0 b5 kq25=rec24 at h;refine .a 2 ?_;obtain⟨b26,q27,h⟩:=ob h;refine .regM [(0,(AN p0)),(1,(AB x22)),(6,(.own n3 0 x23.length)),(7,(AD b5)),(37,(AD b26))] [(Z9 n3 x23)] ?_ ?_
  ·refine .a 5 ?_;rcases oi q27 with⟨c28,q27⟩|⟨c28,q27⟩
   ·refine .a 2 ?_;obtain⟨g29,q27⟩:=AC q27;refine .a 3 ?_;cases q27;refine .nilE ⟨rfl,rfl⟩ ?_ ?_
    ·exact⟨rfl,rfl,rfl,rfl,rfl,trivial⟩
    exact(.refl _)
   refine .a 5 ?_;cases q27;refine .nilE ⟨rfl,rfl⟩ ?_ ?_
   ·exact⟨rfl,rfl,rfl,rfl,rfl,trivial⟩
   exact(.refl _)
  rcases oi h with⟨c30,h⟩|⟨c30,h⟩
  ·refine .a 7 ?_;obtain⟨g31,h⟩:=AC h;refine .c (x:=AN (p0.extract x22.toNat (p0.size:Int).toNat)) (.sliceS rfl rfl rfl rfl g31 Tryz.underlying9) ?_;obtain⟨t32,et32,h⟩:=ob h;refine .callS [(AN (p0.extract x22.toNat (p0.size:Int).toNat))] (.tup [(AK t32.1),(AB t32.2.1),(AD t32.2.2)]) 42 rfl (by decide) Ub rfl rfl rfl ⟨rfl,rfl,trivial⟩ (IJ et32) ?_;refine .a 10 ?_;obtain⟨b33,q34,h⟩:=ob h;refine .regM [(0,(AN p0)),(1,(AB x22)),(6,(.own n3 0 x23.length)),(7,(AD b5)),(8,(AK t32.1)),(9,(AB t32.2.1)),(53,(AD b33))] [(Z9 n3 x23)] ?_ ?_
   ·refine .a 3 ?_;rcases oi q34 with⟨c35,q34⟩|⟨c35,q34⟩
    ·refine .a 5 ?_;cases q34;refine .nilE ⟨rfl,rfl⟩ ?_ ?_
     ·exact⟨rfl,rfl,rfl,rfl,rfl,rfl,rfl,trivial⟩
     exact(.refl _)
    refine .a 2 ?_;obtain⟨g36,q34⟩:=AC q34;refine .a 1 ?_;obtain⟨t37,et37,q34⟩:=ob q34;refine .callG 2 false 48 [(AN (ByteArray.mk #[94,45,47,34])),(AK (AF p0 x22))] (AD t37) 52 rfl (by decide) Nz rfl rfl (bD (eq_false_of_ne_true c35)) rfl rfl ⟨rfl,rfl,rfl,rfl,trivial⟩ (Ez et37) ?_;refine .a 1 ?_;cases q34;refine .nilE ⟨rfl,rfl⟩ ?_ ?_
    ·exact⟨rfl,rfl,rfl,rfl,rfl,rfl,rfl,trivial⟩
    exact(.refl _)
   rcases oi h with⟨c38,h⟩|⟨c38,h⟩
   ·refine .a 6 ?_;refine .nS [4,5] [] ?_;refine .coe 4 (y':=(HB ([]:List AE))) rfl (fun _ _ h=>h) ?_;refine .rK [4,5] ?_;cases h;exact⟨[(HB ([]:List AE)),(AB x22)],⟨rfl,A0,rfl,rfl,trivial⟩,rfl⟩
   refine .a 13 ?_;refine .nK [0,1,6,7,8,11] ?_;refine .seq_mid (fun ρ H=>∃ (x39:Int) (x40:Int),ρ=[(0,(AN p0)),(1,(AB x39)),(6,(.own n3 0 x23.length)),(7,(AD b5)),(8,(AK t32.1)),(11,(AK x40))]∧H=[(Z9 n3 x23)]∧FL k rec24 x23 t32 x39 x40=some r) ?_ ?_
   ·refine .seq ?_;obtain⟨b47,q48,h⟩:=ob h;refine .regM [(0,(AN p0)),(1,(AB (AG (x22+t32.2.1)))),(6,(.own n3 0 x23.length)),(7,(AD b5)),(8,(AK t32.1)),(11,(AK t32.1)),(68,(AD b47))] [(Z9 n3 x23)] ?_ ?_
    ·refine .a 5 ?_;rcases oi q48 with⟨c49,q48⟩|⟨c49,q48⟩
     ·refine .a 2 ?_;obtain⟨g50,q48⟩:=AC q48;refine .a 3 ?_;cases q48;refine .nilE ⟨rfl,rfl⟩ ?_ ?_
      ·exact⟨rfl,rfl,rfl,rfl,rfl,rfl,rfl,trivial⟩
      exact(.refl _)
     refine .a 5 ?_;cases q48;refine .nilE ⟨rfl,rfl⟩ ?_ ?_
     ·exact⟨rfl,rfl,rfl,rfl,rfl,rfl,rfl,trivial⟩
     exact(.refl _)
    rcases oi h with⟨c51,h⟩|⟨c51,h⟩
    ·refine .a 9 ?_;obtain⟨b52,q53,h⟩:=ob h;refine .regM [(0,(AN p0)),(1,(AB (AG ((AG (x22+t32.2.1))+(1:Int))))),(6,(.own n3 0 x23.length)),(7,(AD b5)),(8,(AK t32.1)),(80,(AD b52))] [(Z9 n3 x23)] ?_ ?_
     ·refine .a 5 ?_;rcases oi q53 with⟨c54,q53⟩|⟨c54,q53⟩
      ·refine .a 5 ?_;cases q53;refine .nilE ⟨rfl,rfl⟩ ?_ ?_
       ·exact⟨rfl,rfl,rfl,rfl,rfl,rfl,trivial⟩
       exact(.refl _)
      refine .a 2 ?_;obtain⟨g55,q53⟩:=AC q53;refine .a 1 ?_;obtain⟨t56,et56,q53⟩:=ob q53;refine .callG 4 false 75 [(AN (ByteArray.mk #[93,94,45,47,34])),(AK (AF p0 (AG ((AG (x22+t32.2.1))+(1:Int)))))] (AD t56) 79 rfl (by decide) Nz rfl rfl (bD (decide_eq_false c54)) rfl rfl ⟨rfl,rfl,rfl,rfl,trivial⟩ (Ez et56) ?_;refine .a 1 ?_;cases q53;refine .nilE ⟨rfl,rfl⟩ ?_ ?_
      ·exact⟨rfl,rfl,rfl,rfl,rfl,rfl,trivial⟩
      exact(.refl _)
     rcases oi h with⟨c57,h⟩|⟨c57,h⟩
     ·refine .a 6 ?_;refine .nS [4,5] [] ?_;refine .coe 4 (y':=(HB ([]:List AE))) rfl (fun _ _ h=>h) ?_;refine .rK [4,5] ?_;cases h;exact⟨[(HB ([]:List AE)),(AB (AG ((AG (x22+t32.2.1))+(1:Int))))],⟨rfl,A0,rfl,rfl,trivial⟩,rfl⟩
     refine .a 6 ?_;obtain⟨g58,h⟩:=AC h;refine .c (x:=AN (p0.extract (AG ((AG (x22+t32.2.1))+(1:Int))).toNat (p0.size:Int).toNat)) (.sliceS rfl rfl rfl rfl g58 Tryz.underlying9) ?_;obtain⟨t59,et59,h⟩:=ob h;refine .callS [(AN (p0.extract (AG ((AG (x22+t32.2.1))+(1:Int))).toNat (p0.size:Int).toNat))] (.tup [(AK t59.1),(AB t59.2.1),(AD t59.2.2)]) 86 rfl (by decide) Ub rfl rfl rfl ⟨rfl,rfl,trivial⟩ (IJ et59) ?_;refine .a 10 ?_;obtain⟨b60,q61,h⟩:=ob h;refine .regM [(0,(AN p0)),(1,(AB (AG ((AG (x22+t32.2.1))+(1:Int))))),(6,(.own n3 0 x23.length)),(7,(AD b5)),(8,(AK t32.1)),(9,(AB t59.2.1)),(11,(AK t59.1)),(96,(AD b60))] [(Z9 n3 x23)] ?_ ?_
     ·refine .a 3 ?_;rcases oi q61 with⟨c62,q61⟩|⟨c62,q61⟩
      ·refine .a 4 ?_;cases q61;refine .nilE ⟨rfl,rfl⟩ ?_ ?_
       ·exact⟨rfl,rfl,rfl,rfl,rfl,rfl,rfl,rfl,trivial⟩
       exact(.refl _)
      refine .a 4 ?_;cases q61;refine .nilE ⟨rfl,rfl⟩ ?_ ?_
      ·exact⟨rfl,rfl,rfl,rfl,rfl,rfl,rfl,rfl,trivial⟩
      exact(.refl _)
     rcases oi h with⟨c63,h⟩|⟨c63,h⟩
     ·refine .a 6 ?_;refine .nS [4,5] [] ?_;refine .coe 4 (y':=(HB ([]:List AE))) rfl (fun _ _ h=>h) ?_;refine .rK [4,5] ?_;cases h;exact⟨[(HB ([]:List AE)),(AB (AG ((AG (x22+t32.2.1))+(1:Int))))],⟨rfl,A0,rfl,rfl,trivial⟩,rfl⟩
     refine .a 7 ?_;refine .nK [0,1,6,7,8,11] ?_;exact⟨(AG ((AG ((AG (x22+t32.2.1))+(1:Int)))+t59.2.1)),t59.1,rfl,rfl,h⟩
    refine .a 1 ?_;refine .sK [0,1,6,7,8,11] ?_;exact⟨(AG (x22+t32.2.1)),t32.1,rfl,rfl,h⟩
   rintro _ _ ⟨x39,x40,rfl,rfl,h⟩;rw[FL.eq_1]at h;refine .a 7 ?_;refine .wK [0,1,6,7,11,12] ?_;refine .loop (fun kq ρ H=>∃ (x41:(List Bool)) (x42:Int),ρ=[(0,(AN p0)),(1,(AB x39)),(6,(.own n3 0 x41.length)),(7,(AD b5)),(11,(AK x40)),(12,(AB x42))]∧H=[(Z9 n3 x41)]∧Cs k rec24 x39 x40 kq x41 x42=some r) k ⟨x23,(AG t32.1),rfl,rfl,h⟩ ?_;rintro kq44 _ _ ⟨x41,x42,rfl,rfl,h⟩
   cases kq44 with
   | zero=>rw[Cs.eq_1]at h;cases h
   | succ kq44=>
   rw[Cs.eq_2]at h;generalize hrec43:Cs k rec24 x39 x40 kq44=rec43 at h;refine .a 8 ?_;rcases oi h with⟨c45,h⟩|⟨c45,h⟩
   ·refine .a 7 ?_;obtain⟨g46,h⟩:=AC h;refine .a 1 ?_;refine .store 0 rfl rfl rfl rfl rfl rfl (.cast (.lidx x42 true g46.1 g46.2 .here) (by omega)) rfl rfl Bw rfl ?_;refine .coe 6 (y':=(BL n3 (AU x41 x42 true).length)) rfl (fun _ _ h=>Ad h) ?_;refine .coe 109 (y':=(BL n3 (AU x41 x42 true).length)) rfl (fun _ _ h=>Ad h) ?_;refine .a 5 ?_;refine .nK [0,1,6,7,11,12] ?_;exact⟨kq44,Nat.lt_succ_self _,(AU x41 x42 true),(AG (x42+(1:Int))),rfl,rfl,by rw[hrec43];exact h⟩
   refine .a 1 ?_;refine .eK [0,1,6,7] ?_;exact⟨kq25,Nat.lt_succ_self _,x39,x41,rfl,rfl,by rw[hrec24];exact h⟩
  refine .a 1 ?_;refine .eK [0,1,6,7] ?_;exact⟨x22,x23,rfl,rfl,h⟩
 rintro _ _ ⟨x10,x11,rfl,rfl,h⟩;rw[IZ.eq_1]at h;refine .a 3 ?_;obtain⟨t12,et12,h⟩:=ob h;refine .freezeS 0 [(6,(.fz 1 (x11.map AD))),(112,(.fz 1 (x11.map AD)))] rfl ⟨Aj rfl,Aj rfl,trivial⟩ ?_;refine .callS [(.fz 1 (x11.map AD))] (.ar 1 (t12.toList.map Ab)) 113 rfl (by decide) S4 rfl rfl rfl ⟨rfl,rfl,trivial⟩ (Ht et12) ?_;refine .alloc rfl 13 rfl (by decide) rfl B8 Bj fun n13=>?_;refine .store 0 rfl rfl rfl rfl rfl rfl (.cast .here rfl) rfl (by simp[AV.size]) (by rw[Br];simp[AV.size]) rfl ?_;refine .nK [0,1,7,13] ?_;refine .seq_mid (fun ρ H=>∃ (x14:(Vector Int 4)),ρ=[(0,(AN p0)),(1,(AB x10)),(13,(.ptr n13 0))]∧H=[(BM n13 (x14.toList.map Ab))]∧GY k p0 x10 x14=some r) ?_ ?_
 ·refine .a 4 ?_;rcases oi h with⟨c20,h⟩|⟨c20,h⟩
  ·refine .a 4 ?_;obtain⟨t21,et21,h⟩:=ob h;refine .callS [(AB (3:Int)),(.ar 1 (t12.toList.map Ab)),(.ar 1 (t12.toList.map Ab))] (.ar 1 (t21.toList.map Ab)) 117 rfl (by decide) W4 rfl rfl rfl ⟨rfl,rfl,rfl,rfl,rfl,rfl,trivial⟩ (Kn et21) ?_;refine .store 0 rfl rfl rfl rfl rfl rfl (.cast .here rfl) rfl (by simp[AV.size]) (by rw[Br];simp[AV.size]) rfl ?_;refine .nK [0,1,13] ?_;exact⟨t21,rfl,rfl,h⟩
  refine .a 1 ?_;refine .sK [0,1,13] ?_;exact⟨t12,rfl,rfl,h⟩
 rintro _ _ ⟨x14,rfl,rfl,h⟩;rw[GY.eq_1]at h;refine .a 2 ?_;obtain⟨b15,q16,h⟩:=ob h;refine .regM [(1,(AB x10)),(13,(.ptr n13 0)),(126,(AD b15))] [(BM n13 (x14.toList.map Ab))] ?_ ?_
 ·refine .a 5 ?_;rcases oi q16 with⟨c17,q16⟩|⟨c17,q16⟩
  ·refine .a 4 ?_;cases q16;refine .nilE ⟨rfl,rfl⟩ ?_ ?_
   ·exact⟨rfl,rfl,rfl,trivial⟩
   exact(.refl _)
  refine .a 1 ?_;refine .cG (x:=.ar 1 ((Vector.replicate 4 (0:Int)).toList.map Ab)) rfl rfl (bD (decide_eq_false c17)) (.buildAr (qs:=[]) rfl trivial Tryz.underlying120 BX B8 Bj .nil rfl) ?_;refine .cG (x:=AD (decide (x14=(Vector.replicate 4 (0:Int))))) rfl rfl (bD (decide_eq_false c17)) (.eqA rfl rfl rfl XD (TM x14 (Vector.replicate 4 (0:Int))) (by decide)) ?_;refine .a 1 ?_;cases q16;refine .nilE ⟨rfl,rfl⟩ ?_ ?_
  ·exact⟨rfl,rfl,rfl,trivial⟩
  exact(.refl _)
 rcases oi h with⟨c18,h⟩|⟨c18,h⟩
 ·refine .a 6 ?_;refine .nS [4,5] [] ?_;refine .coe 4 (y':=(HB ([]:List AE))) rfl (fun _ _ h=>h) ?_;refine .rK [4,5] ?_;cases h;exact⟨[(HB ([]:List AE)),(AB x10)],⟨rfl,A0,rfl,rfl,trivial⟩,rfl⟩
 refine .a 5 ?_;refine .c (x:=(Ha (1:Int) (x14.toList.map Ab))) (.build (qs:=[(0,(AB (1:Int))),(1,(.ar 1 (x14.toList.map Ab)))]) rfl ⟨rfl,rfl,rfl,rfl,rfl,rfl,trivial⟩ Tryz.underlying122 rfl A8 A7 (.cons rfl rfl rfl rfl (.cast (.fld0 .here) rfl) (.cons rfl rfl (Ax _ _) (Ax _ _) (.cast (.fldS (.fld0 .here)) rfl) .nil)) rfl) ?_;refine .lit (Z:=(Ha (0:Int) ((Vector.replicate 4 (0:Int)).toList.map Ab))) (xs:=(([(AE.mk (1:Int) x14)]:List AE).map AM)) (qs:=[(0,(AM (AE.mk (1:Int) x14)))]) rfl 130 rfl (by decide) rfl ⟨rfl,rfl,rfl,trivial⟩ Tryz.underlying75 BS A8 A7 rfl (by decide) (An (z:=5) [(AM (AE.mk (1:Int) x14))] rfl ⟨⟨rfl,rfl⟩,trivial⟩) rfl fun n19=>?_;refine .a 4 ?_;refine .nS [4,5] [0] ?_;refine .freezeS 0 [(4,(Ba ([(AE.mk (1:Int) x14)]:List AE)))] rfl ⟨Aj rfl,trivial⟩ ?_;refine .coe 4 (y':=(HB ([(AE.mk (1:Int) x14)]:List AE))) rfl (Jl (by simp)) ?_;refine .rK [4,5] ?_;cases h;exact⟨[(HB ([(AE.mk (1:Int) x14)]:List AE)),(AB (AG (x10+(1:Int))))],⟨rfl,A0,rfl,rfl,trivial⟩,rfl⟩
def Iu (k:Nat) (x5:Int) (x6:(List AE)):Option ((List AE)×Int):=
 some (x6,x5)
def Cv (k:Nat) (self102:(ByteArray→Int→Int→Option ((List AE)×Int))) (p0:ByteArray) (p2:Int):Nat→Int→(List AE)→Option ((List AE)×Int)
 | 0,_,_=>none
 | j+1,x7,x8=>
   Option.bind (α:=Bool) (if x8≠[]then if x7<(p0.size:Int)then if 0≤x7∧x7<(p0.size:Int)then some (decide ((AF p0 x7)=(124:Int)))
   else none
   else some (false)
   else some (false)) fun b11=>
   if b11=true then(self102 p0 (AG (x7+(1:Int))) p2).bind fun t17=>
   if t17.1=[]then some ([],t17.2)
   else if(([]:List AE)++x8).length*40≤140737488355328 then if((([]:List AE)++x8)++t17.1).length*40≤140737488355328 then if(((([]:List AE)++x8)++t17.1)++([(AE.mk (3:Int) (Vector.replicate 4 (0:Int)))]:List AE)).length*40≤140737488355328 then(Cv k self102 p0 p2 j) t17.2 (((([]:List AE)++x8)++t17.1)++([(AE.mk (3:Int) (Vector.replicate 4 (0:Int)))]:List AE))
   else none
   else none
   else none
   else Iu k x7 x8
def Iy (k:Nat) (x5:Int) (x6:(List AE)):Option ((List AE)×Int):=
 some (x6,x5)
def Cw (k:Nat) (self118:(ByteArray→Int→Int→Option ((List AE)×Int))) (p0:ByteArray) (p2:Int):Nat→Int→(List AE)→Option ((List AE)×Int)
 | 0,_,_=>none
 | j+1,x7,x8=>
   Option.bind (α:=Bool) (if x8≠[]then if x7<(p0.size:Int)then if 0≤x7∧x7<(p0.size:Int)then(Hk k (ByteArray.mk #[124,41]) (AF p0 x7)).bind fun t16=>
   some (!t16)
   else none
   else some (false)
   else some (false)) fun b11=>
   if b11=true then(self118 p0 x7 p2).bind fun t18=>
   if t18.1=[]then some ([],t18.2)
   else if(([]:List AE)++x8).length*40≤140737488355328 then if((([]:List AE)++x8)++t18.1).length*40≤140737488355328 then if(((([]:List AE)++x8)++t18.1)++([(AE.mk (2:Int) (Vector.replicate 4 (0:Int)))]:List AE)).length*40≤140737488355328 then(Cw k self118 p0 p2 j) t18.2 (((([]:List AE)++x8)++t18.1)++([(AE.mk (2:Int) (Vector.replicate 4 (0:Int)))]:List AE))
   else none
   else none
   else none
   else Iy k x7 x8
def L7 (k:Nat) (x5:Int) (x6:(List AE)):Option ((List AE)×Int):=
 some (x6,x5)
def GV (k:Nat) (rec9:(Int→(List AE)→Option ((List AE)×Int))) (x7:Int) (x8:(List AE)) (x19:Int):Option ((List AE)×Int):=
 if(([]:List AE)++x8).length*40≤140737488355328 then if((([]:List AE)++x8)++([(AE.mk x19 (Vector.replicate 4 (0:Int)))]:List AE)).length*40≤140737488355328 then rec9 (AG (x7+(1:Int))) ((([]:List AE)++x8)++([(AE.mk x19 (Vector.replicate 4 (0:Int)))]:List AE))
 else none
 else none
def Fi (k:Nat) (rec9:(Int→(List AE)→Option ((List AE)×Int))) (p0:ByteArray) (x7:Int) (x8:(List AE)) (x18:Int):Option ((List AE)×Int):=
 if 0≤x7∧x7<(p0.size:Int)then if(AF p0 x7)=(63:Int)then GV k rec9 x7 x8 (6:Int)
 else GV k rec9 x7 x8 x18
 else none
def CD (k:Nat) (p0:ByteArray):Nat→Int→(List AE)→Option ((List AE)×Int)
 | 0,_,_=>none
 | j+1,x7,x8=>
   Option.bind (α:=Bool) (if x8≠[]then if x7<(p0.size:Int)then if 0≤x7∧x7<(p0.size:Int)then(Hk k (ByteArray.mk #[42,43,63]) (AF p0 x7)).bind fun t16=>
   some (t16)
   else none
   else some (false)
   else some (false)) fun b11=>
   if b11=true then if 0≤x7∧x7<(p0.size:Int)then if(AF p0 x7)=(43:Int)then Fi k (CD k p0 j) p0 x7 x8 (5:Int)
   else Fi k (CD k p0 j) p0 x7 x8 (4:Int)
   else none
   else L7 k x7 x8
mutual
def D7 (k:Nat):Nat→ByteArray→Int→Int→Option ((List AE)×Int)
 | 0,_,_,_=>none
 | j+1,p0,p1,p2=>
   ((Du k j) p0 p1 p2).bind fun t4=>
   Cv k (Du k j) p0 p2 k t4.2 t4.1
def Du (k:Nat):Nat→ByteArray→Int→Int→Option ((List AE)×Int)
 | 0,_,_,_=>none
 | j+1,p0,p1,p2=>
   ((Dz k j) p0 p1 p2).bind fun t4=>
   Cw k (Dz k j) p0 p2 k t4.2 t4.1
def Dz (k:Nat):Nat→ByteArray→Int→Int→Option ((List AE)×Int)
 | 0,_,_,_=>none
 | j+1,p0,p1,p2=>
   ((Ep k j) p0 p1 p2).bind fun t4=>
   CD k p0 k t4.2 t4.1
def Ep (k:Nat):Nat→ByteArray→Int→Int→Option ((List AE)×Int)
 | 0,_,_,_=>none
 | j+1,p0,p1,p2=>
   Option.bind (α:=Bool) (if(p0.size:Int)≤p1 then some (true)
   else if 0≤p1∧p1<(p0.size:Int)then(Hk k (ByteArray.mk #[124,41,42,43,63,93,47,34]) (AF p0 p1)).bind fun t8=>
   some (t8)
   else none) fun b4=>
   if b4=true then some ([],p1)
   else if 0≤p1∧p1<(p0.size:Int)then if(AF p0 p1)=(46:Int)then(Pp k (3:Int) (Vector.replicate 4 (0:Int)) (Vector.replicate 4 (0:Int))).bind fun t12=>
   some ([(AE.mk (1:Int) t12)],(AG (p1+(1:Int))))
   else if 0≤p1∧p1<(p0.size:Int)then if(AF p0 p1)=(126:Int)then some ([(AE.mk (0:Int) (Vector.replicate 4 (0:Int)))],(AG (p1+(1:Int))))
   else if 0≤p1∧p1<(p0.size:Int)then if(AF p0 p1)=(91:Int)then(Tk k p0 (AG (p1+(1:Int)))).bind fun t19=>
   some (t19.1,t19.2)
   else if 0≤p1∧p1<(p0.size:Int)then if(AF p0 p1)=(40:Int)then if(99:Int)≤p2 then some ([],p1)
   else((D7 k j) p0 (AG (p1+(1:Int))) (AG (p2+(1:Int)))).bind fun t23=>
   Option.bind (α:=Bool) (if t23.1=[]then some (true)
   else if(p0.size:Int)≤t23.2 then some (true)
   else if 0≤t23.2∧t23.2<(p0.size:Int)then some (decide ((AF p0 t23.2)≠(41:Int)))
   else none) fun b24=>
   if b24=true then some ([],t23.2)
   else some (t23.1,(AG (t23.2+(1:Int))))
   else if 0≤p1∧p1≤(p0.size:Int)∧(p0.size:Int)≤(p0.size:Int)then(NB k (p0.extract p1.toNat (p0.size:Int).toNat)).bind fun t31=>
   if(!t31.2.2)=true then some ([],p1)
   else if 0≤(256:Int)∧(256:Int)*(1:Int)≤140737488355328∧(256:Int)≤9223372036854775807 then if 0≤t31.1∧t31.1<((List.replicate (256:Int).toNat false).length:Int)then(Nq k (AU (List.replicate (256:Int).toNat false) t31.1 true)).bind fun t36=>
   some ([(AE.mk (1:Int) t36)],(AG (p1+t31.2.1)))
   else none
   else none
   else none
   else none
   else none
   else none
   else none
end
def Vp (k:Nat) (p0:ByteArray) (p1:Int) (p2:Int):Option ((List AE)×Int):=D7 k k p0 p1 p2
theorem Sn (k:Nat):∀ j:Nat,(∀ (p0:ByteArray) (p1:Int) (p2:Int) (r:((List AE)×Int)),D7 k j p0 p1 p2=some r→AY Tryz.prog 77 [(AN p0),(AB p1),(AB p2)] (.tup [(nz 5 (r.1.map AM)),(AB r.2)]))∧(∀ (p0:ByteArray) (p1:Int) (p2:Int) (r:((List AE)×Int)),Du k j p0 p1 p2=some r→AY Tryz.prog 102 [(AN p0),(AB p1),(AB p2)] (.tup [(nz 5 (r.1.map AM)),(AB r.2)]))∧(∀ (p0:ByteArray) (p1:Int) (p2:Int) (r:((List AE)×Int)),Dz k j p0 p1 p2=some r→AY Tryz.prog 118 [(AN p0),(AB p1),(AB p2)] (.tup [(nz 5 (r.1.map AM)),(AB r.2)]))∧(∀ (p0:ByteArray) (p1:Int) (p2:Int) (r:((List AE)×Int)),Ep k j p0 p1 p2=some r→AY Tryz.prog 124 [(AN p0),(AB p1),(AB p2)] (.tup [(nz 5 (r.1.map AM)),(AB r.2)])):=by
 intro j
 induction j with
 | zero=>exact⟨(by intro p0 p1 p2 r h;rw[D7.eq_1]at h;cases h),(by intro p0 p1 p2 r h;rw[Du.eq_1]at h;cases h),(by intro p0 p1 p2 r h;rw[Dz.eq_1]at h;cases h),(by intro p0 p1 p2 r h;rw[Ep.eq_1]at h;cases h)⟩
 | succ j hself=>
 obtain⟨hself77,hself102,hself118,hself124⟩:=hself;refine⟨?_,?_,?_,?_⟩
 ·intro p0 p1 p2 r h;rw[D7.eq_2]at h;generalize hsself77:D7 k j=self77 at h hself77;generalize hsself102:Du k j=self102 at h hself102;generalize hsself118:Dz k j=self118 at h hself118;generalize hsself124:Ep k j=self124 at h hself124;refine AY.intro (res:=[.tmp 6,.tmp 7]) Tryz.func77 rfl rfl rfl (Nat.le_of_ble_eq_true rfl) ?_;refine .a 10 ?_;obtain⟨t4,et4,h⟩:=ob h;refine .callS [(AN p0),(AB p1),(AB p2)] (.tup [(nz 5 (t4.1.map AM)),(AB t4.2)]) 14 rfl (by decide) W5 rfl rfl rfl ⟨rfl,rfl,rfl,rfl,rfl,rfl,trivial⟩ (hself102 _ _ _ _ et4) ?_;refine .a 5 ?_;refine .nK [0,1,2,8] ?_;refine .seq_mid (fun ρ H=>∃ (x5:Int) (x6:(List AE)),ρ=[(1,(AB x5)),(8,(nz 5 (x6.map AM)))]∧H=[]∧Iu k x5 x6=some r) ?_ ?_
  ·refine .a 1 ?_;refine .wK [0,1,2,8] ?_;refine .loop (fun kq ρ H=>∃ (x7:Int) (x8:(List AE)),ρ=[(0,(AN p0)),(1,(AB x7)),(2,(AB p2)),(8,(nz 5 (x8.map AM)))]∧H=[]∧Cv k self102 p0 p2 kq x7 x8=some r) k ⟨t4.2,t4.1,rfl,rfl,h⟩ ?_;rintro kq10 _ _ ⟨x7,x8,rfl,rfl,h⟩
   cases kq10 with
   | zero=>rw[Cv.eq_1]at h;cases h
   | succ kq10=>
   rw[Cv.eq_2]at h;generalize hrec9:Cv k self102 p0 p2 kq10=rec9 at h;refine .a 2 ?_;obtain⟨b11,q12,h⟩:=ob h;refine .regM [(0,(AN p0)),(1,(AB x7)),(2,(AB p2)),(8,(nz 5 (x8.map AM))),(30,(AD b11))] [] ?_ ?_
   ·refine .a 1 ?_;refine .c (x:=AD (decide (x8≠[]))) (.nzN rfl rfl Tryz.underlying75) ?_;refine .a 1 ?_;rcases oi q12 with⟨c13,q12⟩|⟨c13,q12⟩
    ·refine .a 6 ?_;rcases oi q12 with⟨c14,q12⟩|⟨c14,q12⟩
     ·refine .a 2 ?_;obtain⟨g15,q12⟩:=AC q12;refine .a 3 ?_;cases q12;refine .nilE ⟨rfl,rfl⟩ ?_ ?_
      ·exact⟨rfl,rfl,rfl,rfl,rfl,trivial⟩
      exact(.refl _)
     refine .a 5 ?_;cases q12;refine .nilE ⟨rfl,rfl⟩ ?_ ?_
     ·exact⟨rfl,rfl,rfl,rfl,rfl,trivial⟩
     exact(.refl _)
    refine .a 11 ?_;cases q12;refine .nilE ⟨rfl,rfl⟩ ?_ ?_
    ·exact⟨rfl,rfl,rfl,rfl,rfl,trivial⟩
    exact(.refl _)
   rcases oi h with⟨c16,h⟩|⟨c16,h⟩
   ·refine .a 13 ?_;obtain⟨t17,et17,h⟩:=ob h;refine .callS [(AN p0),(AB (AG (x7+(1:Int)))),(AB p2)] (.tup [(nz 5 (t17.1.map AM)),(AB t17.2)]) 36 rfl (by decide) W5 rfl rfl rfl ⟨rfl,rfl,rfl,rfl,rfl,rfl,trivial⟩ (hself102 _ _ _ _ et17) ?_;refine .a 10 ?_;refine .c (x:=AD (decide (t17.1=[]))) (.nzE rfl rfl Tryz.underlying75) ?_;refine .a 1 ?_;rcases oi h with⟨c18,h⟩|⟨c18,h⟩
    ·refine .a 6 ?_;refine .nK [6,7] ?_;refine .coe 6 (y':=(HB ([]:List AE))) rfl (fun _ _ h=>h) ?_;refine .rK [6,7] ?_;cases h;exact⟨[(HB ([]:List AE)),(AB t17.2)],⟨rfl,A0,rfl,rfl,trivial⟩,rfl⟩
    refine .a 3 ?_;refine .lit (Z:=(Ha (0:Int) ((Vector.replicate 4 (0:Int)).toList.map Ab))) (xs:=(([]:List AE).map AM)) (qs:=[]) rfl 42 rfl (by decide) rfl trivial Tryz.underlying75 BS A8 A7 rfl (by decide) (An (z:=5) [] rfl trivial) rfl fun n19=>?_;refine .a 1 ?_;obtain⟨g21,h⟩:=AC h;refine .coe 43 (y':=(.fz 5 (x8.map AM))) rfl K9 ?_;refine .appendL (l:=([]:List AE)) (m:=x8) 0 44 rfl (by decide) rfl rfl rfl rfl rfl CS.fz Tryz.underlying75 Tryz.underlying75 BS Gp A8 rfl g21 (by decide) fun n20=>?_;refine .a 1 ?_;obtain⟨g23,h⟩:=AC h;refine .coe 45 (y':=(Ba t17.1)) rfl K9 ?_;refine .appendL (l:=(([]:List AE)++x8)) (m:=t17.1) 0 46 rfl (by decide) rfl rfl rfl rfl rfl CS.fz Tryz.underlying75 Tryz.underlying75 BS Gp A8 rfl g23 (by decide) fun n22=>?_;refine .c (x:=(Ha (3:Int) ((Vector.replicate 4 (0:Int)).toList.map Ab))) (.build (qs:=[(0,(AB (3:Int)))]) rfl ⟨rfl,rfl,rfl,trivial⟩ Tryz.underlying122 rfl A8 A7 (.cons rfl rfl rfl rfl (.cast (.fld0 .here) rfl) .nil) rfl) ?_;refine .lit (Z:=(Ha (0:Int) ((Vector.replicate 4 (0:Int)).toList.map Ab))) (xs:=(([(AE.mk (3:Int) (Vector.replicate 4 (0:Int)))]:List AE).map AM)) (qs:=[(0,(AM (AE.mk (3:Int) (Vector.replicate 4 (0:Int)))))]) rfl 48 rfl (by decide) rfl ⟨rfl,rfl,rfl,trivial⟩ Tryz.underlying75 BS A8 A7 rfl (by decide) (An (z:=5) [(AM (AE.mk (3:Int) (Vector.replicate 4 (0:Int))))] rfl ⟨⟨rfl,rfl⟩,trivial⟩) rfl fun n24=>?_;obtain⟨g26,h⟩:=AC h
    refine .appendL (l:=((([]:List AE)++x8)++t17.1)) (m:=([(AE.mk (3:Int) (Vector.replicate 4 (0:Int)))]:List AE)) 1 49 rfl (by decide) rfl rfl rfl rfl rfl (CS.ownL (f:=AM) (l:=([(AE.mk (3:Int) (Vector.replicate 4 (0:Int)))]:List AE)) 0 rfl) Tryz.underlying75 Tryz.underlying75 BS Gp A8 rfl g26 (by decide) fun n25=>?_;refine .a 1 ?_;refine .freezeS 1 [(8,(Ba (((([]:List AE)++x8)++t17.1)++([(AE.mk (3:Int) (Vector.replicate 4 (0:Int)))]:List AE)))),(49,(Ba (((([]:List AE)++x8)++t17.1)++([(AE.mk (3:Int) (Vector.replicate 4 (0:Int)))]:List AE))))] rfl ⟨Aj rfl,Aj rfl,trivial⟩ ?_;refine .coe 8 (y':=(HB (((([]:List AE)++x8)++t17.1)++([(AE.mk (3:Int) (Vector.replicate 4 (0:Int)))]:List AE)))) rfl (Jl (by simp)) ?_;refine .nS [0,1,2,8] [] ?_;exact⟨kq10,Nat.lt_succ_self _,t17.2,(((([]:List AE)++x8)++t17.1)++([(AE.mk (3:Int) (Vector.replicate 4 (0:Int)))]:List AE)),rfl,rfl,by rw[hrec9];exact h⟩
   refine .a 1 ?_;refine .eK [1,8] ?_;exact⟨x7,x8,rfl,rfl,h⟩
  rintro _ _ ⟨x5,x6,rfl,rfl,h⟩;rw[Iu.eq_1]at h;refine .a 6 ?_;refine .nK [6,7] ?_;refine .rK [6,7] ?_;have hr:=Option.some.inj h;subst hr;exact⟨[(nz 5 (x6.map AM)),(AB x5)],⟨rfl,A0,rfl,rfl,trivial⟩,rfl⟩
 ·intro p0 p1 p2 r h;rw[Du.eq_2]at h;generalize hsself77:D7 k j=self77 at h hself77;generalize hsself102:Du k j=self102 at h hself102;generalize hsself118:Dz k j=self118 at h hself118;generalize hsself124:Ep k j=self124 at h hself124;refine AY.intro (res:=[.tmp 6,.tmp 7]) Tryz.func102 rfl rfl rfl (Nat.le_of_ble_eq_true rfl) ?_;refine .a 10 ?_;obtain⟨t4,et4,h⟩:=ob h;refine .callS [(AN p0),(AB p1),(AB p2)] (.tup [(nz 5 (t4.1.map AM)),(AB t4.2)]) 14 rfl (by decide) W6 rfl rfl rfl ⟨rfl,rfl,rfl,rfl,rfl,rfl,trivial⟩ (hself118 _ _ _ _ et4) ?_;refine .a 5 ?_;refine .nK [0,1,2,8] ?_;refine .seq_mid (fun ρ H=>∃ (x5:Int) (x6:(List AE)),ρ=[(1,(AB x5)),(8,(nz 5 (x6.map AM)))]∧H=[]∧Iy k x5 x6=some r) ?_ ?_
  ·refine .a 1 ?_;refine .wK [0,1,2,8] ?_;refine .loop (fun kq ρ H=>∃ (x7:Int) (x8:(List AE)),ρ=[(0,(AN p0)),(1,(AB x7)),(2,(AB p2)),(8,(nz 5 (x8.map AM)))]∧H=[]∧Cw k self118 p0 p2 kq x7 x8=some r) k ⟨t4.2,t4.1,rfl,rfl,h⟩ ?_;rintro kq10 _ _ ⟨x7,x8,rfl,rfl,h⟩
   cases kq10 with
   | zero=>rw[Cw.eq_1]at h;cases h
   | succ kq10=>
   rw[Cw.eq_2]at h;generalize hrec9:Cw k self118 p0 p2 kq10=rec9 at h;refine .a 2 ?_;obtain⟨b11,q12,h⟩:=ob h;refine .regM [(0,(AN p0)),(1,(AB x7)),(2,(AB p2)),(8,(nz 5 (x8.map AM))),(31,(AD b11))] [] ?_ ?_
   ·refine .a 1 ?_;refine .c (x:=AD (decide (x8≠[]))) (.nzN rfl rfl Tryz.underlying75) ?_;refine .a 1 ?_;rcases oi q12 with⟨c13,q12⟩|⟨c13,q12⟩
    ·refine .a 6 ?_;rcases oi q12 with⟨c14,q12⟩|⟨c14,q12⟩
     ·refine .a 2 ?_;obtain⟨g15,q12⟩:=AC q12;refine .a 1 ?_;obtain⟨t16,et16,q12⟩:=ob q12;refine .callG 8 true 25 [(AN (ByteArray.mk #[124,41])),(AK (AF p0 x7))] (AD t16) 29 rfl (by decide) Nz rfl rfl (bD (decide_eq_true c14)) rfl rfl ⟨rfl,rfl,rfl,rfl,trivial⟩ (Ez et16) ?_;refine .a 2 ?_;cases q12;refine .nilE ⟨rfl,rfl⟩ ?_ ?_
      ·exact⟨rfl,rfl,rfl,rfl,rfl,trivial⟩
      exact(.refl _)
     refine .a 6 ?_;cases q12;refine .nilE ⟨rfl,rfl⟩ ?_ ?_
     ·exact⟨rfl,rfl,rfl,rfl,rfl,trivial⟩
     exact(.refl _)
    refine .a 12 ?_;cases q12;refine .nilE ⟨rfl,rfl⟩ ?_ ?_
    ·exact⟨rfl,rfl,rfl,rfl,rfl,trivial⟩
    exact(.refl _)
   rcases oi h with⟨c17,h⟩|⟨c17,h⟩
   ·refine .a 12 ?_;obtain⟨t18,et18,h⟩:=ob h;refine .callS [(AN p0),(AB x7),(AB p2)] (.tup [(nz 5 (t18.1.map AM)),(AB t18.2)]) 36 rfl (by decide) W6 rfl rfl rfl ⟨rfl,rfl,rfl,rfl,rfl,rfl,trivial⟩ (hself118 _ _ _ _ et18) ?_;refine .a 10 ?_;refine .c (x:=AD (decide (t18.1=[]))) (.nzE rfl rfl Tryz.underlying75) ?_;refine .a 1 ?_;rcases oi h with⟨c19,h⟩|⟨c19,h⟩
    ·refine .a 6 ?_;refine .nK [6,7] ?_;refine .coe 6 (y':=(HB ([]:List AE))) rfl (fun _ _ h=>h) ?_;refine .rK [6,7] ?_;cases h;exact⟨[(HB ([]:List AE)),(AB t18.2)],⟨rfl,A0,rfl,rfl,trivial⟩,rfl⟩
    refine .a 3 ?_;refine .lit (Z:=(Ha (0:Int) ((Vector.replicate 4 (0:Int)).toList.map Ab))) (xs:=(([]:List AE).map AM)) (qs:=[]) rfl 42 rfl (by decide) rfl trivial Tryz.underlying75 BS A8 A7 rfl (by decide) (An (z:=5) [] rfl trivial) rfl fun n20=>?_;refine .a 1 ?_;obtain⟨g22,h⟩:=AC h;refine .coe 43 (y':=(.fz 5 (x8.map AM))) rfl K9 ?_;refine .appendL (l:=([]:List AE)) (m:=x8) 0 44 rfl (by decide) rfl rfl rfl rfl rfl CS.fz Tryz.underlying75 Tryz.underlying75 BS Gp A8 rfl g22 (by decide) fun n21=>?_;refine .a 1 ?_;obtain⟨g24,h⟩:=AC h;refine .coe 45 (y':=(Ba t18.1)) rfl K9 ?_;refine .appendL (l:=(([]:List AE)++x8)) (m:=t18.1) 0 46 rfl (by decide) rfl rfl rfl rfl rfl CS.fz Tryz.underlying75 Tryz.underlying75 BS Gp A8 rfl g24 (by decide) fun n23=>?_;refine .c (x:=(Ha (2:Int) ((Vector.replicate 4 (0:Int)).toList.map Ab))) (.build (qs:=[(0,(AB (2:Int)))]) rfl ⟨rfl,rfl,rfl,trivial⟩ Tryz.underlying122 rfl A8 A7 (.cons rfl rfl rfl rfl (.cast (.fld0 .here) rfl) .nil) rfl) ?_;refine .lit (Z:=(Ha (0:Int) ((Vector.replicate 4 (0:Int)).toList.map Ab))) (xs:=(([(AE.mk (2:Int) (Vector.replicate 4 (0:Int)))]:List AE).map AM)) (qs:=[(0,(AM (AE.mk (2:Int) (Vector.replicate 4 (0:Int)))))]) rfl 48 rfl (by decide) rfl ⟨rfl,rfl,rfl,trivial⟩ Tryz.underlying75 BS A8 A7 rfl (by decide) (An (z:=5) [(AM (AE.mk (2:Int) (Vector.replicate 4 (0:Int))))] rfl ⟨⟨rfl,rfl⟩,trivial⟩) rfl fun n25=>?_;obtain⟨g27,h⟩:=AC h
    refine .appendL (l:=((([]:List AE)++x8)++t18.1)) (m:=([(AE.mk (2:Int) (Vector.replicate 4 (0:Int)))]:List AE)) 1 49 rfl (by decide) rfl rfl rfl rfl rfl (CS.ownL (f:=AM) (l:=([(AE.mk (2:Int) (Vector.replicate 4 (0:Int)))]:List AE)) 0 rfl) Tryz.underlying75 Tryz.underlying75 BS Gp A8 rfl g27 (by decide) fun n26=>?_;refine .a 1 ?_;refine .freezeS 1 [(8,(Ba (((([]:List AE)++x8)++t18.1)++([(AE.mk (2:Int) (Vector.replicate 4 (0:Int)))]:List AE)))),(49,(Ba (((([]:List AE)++x8)++t18.1)++([(AE.mk (2:Int) (Vector.replicate 4 (0:Int)))]:List AE))))] rfl ⟨Aj rfl,Aj rfl,trivial⟩ ?_;refine .coe 8 (y':=(HB (((([]:List AE)++x8)++t18.1)++([(AE.mk (2:Int) (Vector.replicate 4 (0:Int)))]:List AE)))) rfl (Jl (by simp)) ?_;refine .nS [0,1,2,8] [] ?_;exact⟨kq10,Nat.lt_succ_self _,t18.2,(((([]:List AE)++x8)++t18.1)++([(AE.mk (2:Int) (Vector.replicate 4 (0:Int)))]:List AE)),rfl,rfl,by rw[hrec9];exact h⟩
   refine .a 1 ?_;refine .eK [1,8] ?_;exact⟨x7,x8,rfl,rfl,h⟩
  rintro _ _ ⟨x5,x6,rfl,rfl,h⟩;rw[Iy.eq_1]at h;refine .a 6 ?_;refine .nK [6,7] ?_;refine .rK [6,7] ?_;have hr:=Option.some.inj h;subst hr;exact⟨[(nz 5 (x6.map AM)),(AB x5)],⟨rfl,A0,rfl,rfl,trivial⟩,rfl⟩
 ·intro p0 p1 p2 r h;rw[Dz.eq_2]at h;generalize hsself77:D7 k j=self77 at h hself77;generalize hsself102:Du k j=self102 at h hself102;generalize hsself118:Dz k j=self118 at h hself118;generalize hsself124:Ep k j=self124 at h hself124;refine AY.intro (res:=[.tmp 6,.tmp 7]) Tryz.func118 rfl rfl rfl (Nat.le_of_ble_eq_true rfl) ?_;refine .a 10 ?_;obtain⟨t4,et4,h⟩:=ob h;refine .callS [(AN p0),(AB p1),(AB p2)] (.tup [(nz 5 (t4.1.map AM)),(AB t4.2)]) 14 rfl (by decide) Zb rfl rfl rfl ⟨rfl,rfl,rfl,rfl,rfl,rfl,trivial⟩ (hself124 _ _ _ _ et4) ?_;refine .a 5 ?_;refine .nK [0,1,8] ?_;refine .seq_mid (fun ρ H=>∃ (x5:Int) (x6:(List AE)),ρ=[(1,(AB x5)),(8,(nz 5 (x6.map AM)))]∧H=[]∧L7 k x5 x6=some r) ?_ ?_
  ·refine .a 1 ?_;refine .wK [0,1,8] ?_;refine .loop (fun kq ρ H=>∃ (x7:Int) (x8:(List AE)),ρ=[(0,(AN p0)),(1,(AB x7)),(8,(nz 5 (x8.map AM)))]∧H=[]∧CD k p0 kq x7 x8=some r) k ⟨t4.2,t4.1,rfl,rfl,h⟩ ?_;rintro kq10 _ _ ⟨x7,x8,rfl,rfl,h⟩
   cases kq10 with
   | zero=>rw[CD.eq_1]at h;cases h
   | succ kq10=>
   rw[CD.eq_2]at h;generalize hrec9:CD k p0 kq10=rec9 at h;refine .a 2 ?_;obtain⟨b11,q12,h⟩:=ob h;refine .regM [(0,(AN p0)),(1,(AB x7)),(8,(nz 5 (x8.map AM))),(30,(AD b11))] [] ?_ ?_
   ·refine .a 1 ?_;refine .c (x:=AD (decide (x8≠[]))) (.nzN rfl rfl Tryz.underlying75) ?_;refine .a 1 ?_;rcases oi q12 with⟨c13,q12⟩|⟨c13,q12⟩
    ·refine .a 6 ?_;rcases oi q12 with⟨c14,q12⟩|⟨c14,q12⟩
     ·refine .a 2 ?_;obtain⟨g15,q12⟩:=AC q12;refine .a 1 ?_;obtain⟨t16,et16,q12⟩:=ob q12;refine .callG 8 true 25 [(AN (ByteArray.mk #[42,43,63])),(AK (AF p0 x7))] (AD t16) 29 rfl (by decide) Nz rfl rfl (bD (decide_eq_true c14)) rfl rfl ⟨rfl,rfl,rfl,rfl,trivial⟩ (Ez et16) ?_;refine .a 1 ?_;cases q12;refine .nilE ⟨rfl,rfl⟩ ?_ ?_
      ·exact⟨rfl,rfl,rfl,rfl,trivial⟩
      exact(.refl _)
     refine .a 5 ?_;cases q12;refine .nilE ⟨rfl,rfl⟩ ?_ ?_
     ·exact⟨rfl,rfl,rfl,rfl,trivial⟩
     exact(.refl _)
    refine .a 11 ?_;cases q12;refine .nilE ⟨rfl,rfl⟩ ?_ ?_
    ·exact⟨rfl,rfl,rfl,rfl,trivial⟩
    exact(.refl _)
   rcases oi h with⟨c17,h⟩|⟨c17,h⟩
   ·refine .a 6 ?_;refine .nK [0,1,8,9] ?_;refine .seq_mid (fun ρ H=>∃ (x18:Int),ρ=[(0,(AN p0)),(1,(AB x7)),(8,(nz 5 (x8.map AM))),(9,(AB x18))]∧H=[]∧Fi k rec9 p0 x7 x8 x18=some r) ?_ ?_
    ·refine .a 4 ?_;obtain⟨g28,h⟩:=AC h;refine .a 3 ?_;rcases oi h with⟨c29,h⟩|⟨c29,h⟩
     ·refine .a 3 ?_;refine .nK [0,1,8,9] ?_;exact⟨(5:Int),rfl,rfl,h⟩
     refine .a 1 ?_;refine .sK [0,1,8,9] ?_;exact⟨(4:Int),rfl,rfl,h⟩
    rintro _ _ ⟨x18,rfl,rfl,h⟩;rw[Fi.eq_1]at h;refine .seq_mid (fun ρ H=>∃ (x19:Int),ρ=[(0,(AN p0)),(1,(AB x7)),(8,(nz 5 (x8.map AM))),(9,(AB x19))]∧H=[]∧GV k rec9 x7 x8 x19=some r) ?_ ?_
    ·refine .a 4 ?_;obtain⟨g26,h⟩:=AC h;refine .a 3 ?_;rcases oi h with⟨c27,h⟩|⟨c27,h⟩
     ·refine .a 3 ?_;refine .nK [0,1,8,9] ?_;exact⟨(6:Int),rfl,rfl,h⟩
     refine .a 1 ?_;refine .sK [0,1,8,9] ?_;exact⟨x18,rfl,rfl,h⟩
    rintro _ _ ⟨x19,rfl,rfl,h⟩;rw[GV.eq_1]at h;refine .sr ?_;refine .lit (Z:=(Ha (0:Int) ((Vector.replicate 4 (0:Int)).toList.map Ab))) (xs:=(([]:List AE).map AM)) (qs:=[]) rfl 39 rfl (by decide) rfl trivial Tryz.underlying75 BS A8 A7 rfl (by decide) (An (z:=5) [] rfl trivial) rfl fun n20=>?_;refine .a 1 ?_;obtain⟨g22,h⟩:=AC h;refine .coe 40 (y':=(.fz 5 (x8.map AM))) rfl K9 ?_;refine .appendL (l:=([]:List AE)) (m:=x8) 0 41 rfl (by decide) rfl rfl rfl rfl rfl CS.fz Tryz.underlying75 Tryz.underlying75 BS Gp A8 rfl g22 (by decide) fun n21=>?_;refine .a 1 ?_;refine .c (x:=(Ha x19 ((Vector.replicate 4 (0:Int)).toList.map Ab))) (.build (qs:=[(0,(AB x19))]) rfl ⟨rfl,rfl,rfl,trivial⟩ Tryz.underlying122 rfl A8 A7 (.cons rfl rfl rfl rfl (.cast (.fld0 .here) rfl) .nil) rfl) ?_;refine .lit (Z:=(Ha (0:Int) ((Vector.replicate 4 (0:Int)).toList.map Ab))) (xs:=(([(AE.mk x19 (Vector.replicate 4 (0:Int)))]:List AE).map AM)) (qs:=[(0,(AM (AE.mk x19 (Vector.replicate 4 (0:Int)))))]) rfl 44 rfl (by decide) rfl ⟨rfl,rfl,rfl,trivial⟩ Tryz.underlying75 BS A8 A7 rfl (by decide) (An (z:=5) [(AM (AE.mk x19 (Vector.replicate 4 (0:Int))))] rfl ⟨⟨rfl,rfl⟩,trivial⟩) rfl fun n23=>?_;obtain⟨g25,h⟩:=AC h;refine .appendL (l:=(([]:List AE)++x8)) (m:=([(AE.mk x19 (Vector.replicate 4 (0:Int)))]:List AE)) 1 45 rfl (by decide) rfl rfl rfl rfl rfl (CS.ownL (f:=AM) (l:=([(AE.mk x19 (Vector.replicate 4 (0:Int)))]:List AE)) 0 rfl) Tryz.underlying75 Tryz.underlying75 BS Gp A8 rfl g25 (by decide) fun n24=>?_
    refine .a 1 ?_;refine .nS [0,1,8] [1] ?_;refine .a 4 ?_;refine .freezeS 0 [(8,(Ba ((([]:List AE)++x8)++([(AE.mk x19 (Vector.replicate 4 (0:Int)))]:List AE))))] rfl ⟨Aj rfl,trivial⟩ ?_;refine .coe 8 (y':=(HB ((([]:List AE)++x8)++([(AE.mk x19 (Vector.replicate 4 (0:Int)))]:List AE)))) rfl (Jl (by simp)) ?_;refine .nK [0,1,8] ?_;exact⟨kq10,Nat.lt_succ_self _,(AG (x7+(1:Int))),((([]:List AE)++x8)++([(AE.mk x19 (Vector.replicate 4 (0:Int)))]:List AE)),rfl,rfl,by rw[hrec9];exact h⟩
   refine .a 1 ?_;refine .eK [1,8] ?_;exact⟨x7,x8,rfl,rfl,h⟩
  rintro _ _ ⟨x5,x6,rfl,rfl,h⟩;rw[L7.eq_1]at h;refine .a 6 ?_;refine .nK [6,7] ?_;refine .rK [6,7] ?_;have hr:=Option.some.inj h;subst hr;exact⟨[(nz 5 (x6.map AM)),(AB x5)],⟨rfl,A0,rfl,rfl,trivial⟩,rfl⟩
 intro p0 p1 p2 r h;rw[Ep.eq_2]at h;generalize hsself77:D7 k j=self77 at h hself77;generalize hsself102:Du k j=self102 at h hself102;generalize hsself118:Dz k j=self118 at h hself118;generalize hsself124:Ep k j=self124 at h hself124;refine AY.intro (res:=[.tmp 6,.tmp 7]) Tryz.func124 rfl rfl rfl (Nat.le_of_ble_eq_true rfl) ?_;refine .a 8 ?_;obtain⟨b4,q5,h⟩:=ob h;refine .regM [(0,(AN p0)),(1,(AB p1)),(2,(AB p2)),(14,(AD b4))] [] ?_ ?_
 ·refine .a 5 ?_;rcases oi q5 with⟨c6,q5⟩|⟨c6,q5⟩
  ·refine .a 6 ?_;cases q5;refine .nilE ⟨rfl,rfl⟩ ?_ ?_
   ·exact⟨rfl,rfl,rfl,rfl,trivial⟩
   exact(.refl _)
  refine .a 2 ?_;obtain⟨g7,q5⟩:=AC q5;refine .a 1 ?_;obtain⟨t8,et8,q5⟩:=ob q5;refine .callG 4 false 19 [(AN (ByteArray.mk #[124,41,42,43,63,93,47,34])),(AK (AF p0 p1))] (AD t8) 23 rfl (by decide) Nz rfl rfl (bD (decide_eq_false c6)) rfl rfl ⟨rfl,rfl,rfl,rfl,trivial⟩ (Ez et8) ?_;refine .a 2 ?_;cases q5;refine .nilE ⟨rfl,rfl⟩ ?_ ?_
  ·exact⟨rfl,rfl,rfl,rfl,trivial⟩
  exact(.refl _)
 rcases oi h with⟨c9,h⟩|⟨c9,h⟩
 ·refine .a 6 ?_;refine .nK [6,7] ?_;refine .coe 6 (y':=(HB ([]:List AE))) rfl (fun _ _ h=>h) ?_;refine .rK [6,7] ?_;cases h;exact⟨[(HB ([]:List AE)),(AB p1)],⟨rfl,A0,rfl,rfl,trivial⟩,rfl⟩
 refine .a 5 ?_;obtain⟨g10,h⟩:=AC h;refine .a 4 ?_;rcases oi h with⟨c11,h⟩|⟨c11,h⟩
 ·refine .a 3 ?_;refine .c (x:=.ar 1 ((Vector.replicate 4 (0:Int)).toList.map Ab)) (.buildAr (qs:=[]) rfl trivial Tryz.underlying120 BX B8 Bj .nil rfl) ?_;refine .c (x:=.ar 1 ((Vector.replicate 4 (0:Int)).toList.map Ab)) (.buildAr (qs:=[]) rfl trivial Tryz.underlying120 BX B8 Bj .nil rfl) ?_;obtain⟨t12,et12,h⟩:=ob h;refine .callS [(AB (3:Int)),(.ar 1 ((Vector.replicate 4 (0:Int)).toList.map Ab)),(.ar 1 ((Vector.replicate 4 (0:Int)).toList.map Ab))] (.ar 1 (t12.toList.map Ab)) 33 rfl (by decide) W4 rfl rfl rfl ⟨rfl,rfl,rfl,rfl,rfl,rfl,trivial⟩ (Kn et12) ?_;refine .c (x:=(Ha (1:Int) (t12.toList.map Ab))) (.build (qs:=[(0,(AB (1:Int))),(1,(.ar 1 (t12.toList.map Ab)))]) rfl ⟨rfl,rfl,rfl,rfl,rfl,rfl,trivial⟩ Tryz.underlying122 rfl A8 A7 (.cons rfl rfl rfl rfl (.cast (.fld0 .here) rfl) (.cons rfl rfl (Ax _ _) (Ax _ _) (.cast (.fldS (.fld0 .here)) rfl) .nil)) rfl) ?_;refine .lit (Z:=(Ha (0:Int) ((Vector.replicate 4 (0:Int)).toList.map Ab))) (xs:=(([(AE.mk (1:Int) t12)]:List AE).map AM)) (qs:=[(0,(AM (AE.mk (1:Int) t12)))]) rfl 35 rfl (by decide) rfl ⟨rfl,rfl,rfl,trivial⟩ Tryz.underlying75 BS A8 A7 rfl (by decide) (An (z:=5) [(AM (AE.mk (1:Int) t12))] rfl ⟨⟨rfl,rfl⟩,trivial⟩) rfl fun n13=>?_;refine .a 4 ?_;refine .nK [6,7] ?_;refine .freezeS 0 [(6,(Ba ([(AE.mk (1:Int) t12)]:List AE)))] rfl ⟨Aj rfl,trivial⟩ ?_;refine .coe 6 (y':=(HB ([(AE.mk (1:Int) t12)]:List AE))) rfl (Jl (by simp)) ?_;refine .rK [6,7] ?_;cases h
  exact⟨[(HB ([(AE.mk (1:Int) t12)]:List AE)),(AB (AG (p1+(1:Int))))],⟨rfl,A0,rfl,rfl,trivial⟩,rfl⟩
 refine .a 5 ?_;obtain⟨g14,h⟩:=AC h;refine .a 4 ?_;rcases oi h with⟨c15,h⟩|⟨c15,h⟩
 ·refine .a 3 ?_;refine .c (x:=(Ha (0:Int) ((Vector.replicate 4 (0:Int)).toList.map Ab))) (.build (qs:=[]) rfl trivial Tryz.underlying122 rfl A8 A7 .nil rfl) ?_;refine .lit (Z:=(Ha (0:Int) ((Vector.replicate 4 (0:Int)).toList.map Ab))) (xs:=(([(AE.mk (0:Int) (Vector.replicate 4 (0:Int)))]:List AE).map AM)) (qs:=[(0,(AM (AE.mk (0:Int) (Vector.replicate 4 (0:Int)))))]) rfl 44 rfl (by decide) rfl ⟨rfl,rfl,rfl,trivial⟩ Tryz.underlying75 BS A8 A7 rfl (by decide) (An (z:=5) [(AM (AE.mk (0:Int) (Vector.replicate 4 (0:Int))))] rfl ⟨⟨rfl,rfl⟩,trivial⟩) rfl fun n16=>?_;refine .a 4 ?_;refine .nK [6,7] ?_;refine .freezeS 0 [(6,(Ba ([(AE.mk (0:Int) (Vector.replicate 4 (0:Int)))]:List AE)))] rfl ⟨Aj rfl,trivial⟩ ?_;refine .coe 6 (y':=(HB ([(AE.mk (0:Int) (Vector.replicate 4 (0:Int)))]:List AE))) rfl (Jl (by simp)) ?_;refine .rK [6,7] ?_;cases h;exact⟨[(HB ([(AE.mk (0:Int) (Vector.replicate 4 (0:Int)))]:List AE)),(AB (AG (p1+(1:Int))))],⟨rfl,A0,rfl,rfl,trivial⟩,rfl⟩
 refine .a 5 ?_;obtain⟨g17,h⟩:=AC h;refine .a 4 ?_;rcases oi h with⟨c18,h⟩|⟨c18,h⟩
 ·refine .a 6 ?_;obtain⟨t19,et19,h⟩:=ob h;refine .callS [(AN p0),(AB (AG (p1+(1:Int))))] (.tup [(nz 5 (t19.1.map AM)),(AB t19.2)]) 55 rfl (by decide) aU rfl rfl rfl ⟨rfl,rfl,rfl,rfl,trivial⟩ (RI et19) ?_;refine .a 4 ?_;refine .nK [6,7] ?_;refine .rK [6,7] ?_;cases h;exact⟨[(nz 5 (t19.1.map AM)),(AB t19.2)],⟨rfl,A0,rfl,rfl,trivial⟩,rfl⟩
 refine .a 5 ?_;obtain⟨g20,h⟩:=AC h;refine .a 4 ?_;rcases oi h with⟨c21,h⟩|⟨c21,h⟩
 ·refine .a 7 ?_;rcases oi h with⟨c22,h⟩|⟨c22,h⟩
  ·refine .a 6 ?_;refine .nK [6,7] ?_;refine .coe 6 (y':=(HB ([]:List AE))) rfl (fun _ _ h=>h) ?_;refine .rK [6,7] ?_;cases h;exact⟨[(HB ([]:List AE)),(AB p1)],⟨rfl,A0,rfl,rfl,trivial⟩,rfl⟩
  refine .a 9 ?_;obtain⟨t23,et23,h⟩:=ob h;refine .callS [(AN p0),(AB (AG (p1+(1:Int)))),(AB (AG (p2+(1:Int))))] (.tup [(nz 5 (t23.1.map AM)),(AB t23.2)]) 72 rfl (by decide) Zn rfl rfl rfl ⟨rfl,rfl,rfl,rfl,rfl,rfl,trivial⟩ (hself77 _ _ _ _ et23) ?_;refine .a 8 ?_;obtain⟨b24,q25,h⟩:=ob h;refine .regM [(8,(nz 5 (t23.1.map AM))),(9,(AB t23.2)),(88,(AD b24))] [] ?_ ?_
  ·refine .a 1 ?_;refine .c (x:=AD (decide (t23.1=[]))) (.nzE rfl rfl Tryz.underlying75) ?_;refine .a 1 ?_;rcases oi q25 with⟨c26,q25⟩|⟨c26,q25⟩
   ·refine .a 11 ?_;cases q25;refine .nilE ⟨rfl,rfl⟩ ?_ ?_
    ·exact⟨rfl,rfl,rfl,trivial⟩
    exact(.refl _)
   refine .a 6 ?_;rcases oi q25 with⟨c27,q25⟩|⟨c27,q25⟩
   ·refine .a 5 ?_;cases q25;refine .nilE ⟨rfl,rfl⟩ ?_ ?_
    ·exact⟨rfl,rfl,rfl,trivial⟩
    exact(.refl _)
   refine .a 2 ?_;obtain⟨g28,q25⟩:=AC q25;refine .a 3 ?_;cases q25;refine .nilE ⟨rfl,rfl⟩ ?_ ?_
   ·exact⟨rfl,rfl,rfl,trivial⟩
   exact(.refl _)
  rcases oi h with⟨c29,h⟩|⟨c29,h⟩
  ·refine .a 6 ?_;refine .nK [6,7] ?_;refine .coe 6 (y':=(HB ([]:List AE))) rfl (fun _ _ h=>h) ?_;refine .rK [6,7] ?_;cases h;exact⟨[(HB ([]:List AE)),(AB t23.2)],⟨rfl,A0,rfl,rfl,trivial⟩,rfl⟩
  refine .a 9 ?_;refine .nK [6,7] ?_;refine .rK [6,7] ?_;cases h;exact⟨[(nz 5 (t23.1.map AM)),(AB (AG (t23.2+(1:Int))))],⟨rfl,A0,rfl,rfl,trivial⟩,rfl⟩
 refine .a 6 ?_;obtain⟨g30,h⟩:=AC h;refine .c (x:=AN (p0.extract p1.toNat (p0.size:Int).toNat)) (.sliceS rfl rfl rfl rfl g30 Tryz.underlying9) ?_;obtain⟨t31,et31,h⟩:=ob h;refine .callS [(AN (p0.extract p1.toNat (p0.size:Int).toNat))] (.tup [(AK t31.1),(AB t31.2.1),(AD t31.2.2)]) 97 rfl (by decide) Ub rfl rfl rfl ⟨rfl,rfl,trivial⟩ (IJ et31) ?_;refine .a 14 ?_;rcases oi h with⟨c32,h⟩|⟨c32,h⟩
 ·refine .a 6 ?_;refine .nK [6,7] ?_;refine .coe 6 (y':=(HB ([]:List AE))) rfl (fun _ _ h=>h) ?_;refine .rK [6,7] ?_;cases h;exact⟨[(HB ([]:List AE)),(AB p1)],⟨rfl,A0,rfl,rfl,trivial⟩,rfl⟩
 refine .a 4 ?_;obtain⟨g34,h⟩:=AC h;refine .makeL (f:=AD) false rfl 104 rfl (by decide) rfl rfl rfl Tryz.underlying95 Bw KI G3 D9 rfl g34 fun n33=>?_;refine .a 6 ?_;obtain⟨g35,h⟩:=AC h;refine .a 1 ?_;refine .store 0 rfl rfl rfl rfl rfl rfl (.cast (.lidx t31.1 true g35.1 g35.2 .here) (by omega)) rfl rfl Bw rfl ?_;refine .coe 13 (y':=(BL n33 (AU (List.replicate (256:Int).toNat false) t31.1 true).length)) rfl (fun _ _ h=>Ad h) ?_;refine .coe 105 (y':=(BL n33 (AU (List.replicate (256:Int).toNat false) t31.1 true).length)) rfl (fun _ _ h=>Ad h) ?_;refine .a 4 ?_;obtain⟨t36,et36,h⟩:=ob h;refine .freezeS 0 [(13,(Ln (AU (List.replicate (256:Int).toNat false) t31.1 true))),(108,(Ln (AU (List.replicate (256:Int).toNat false) t31.1 true)))] rfl ⟨Aj rfl,Aj rfl,trivial⟩ ?_;refine .callS [(Ln (AU (List.replicate (256:Int).toNat false) t31.1 true))] (.ar 1 (t36.toList.map Ab)) 109 rfl (by decide) S4 rfl rfl rfl ⟨rfl,rfl,trivial⟩ (Ht et36) ?_;refine .c (x:=(Ha (1:Int) (t36.toList.map Ab))) (.build (qs:=[(0,(AB (1:Int))),(1,(.ar 1 (t36.toList.map Ab)))]) rfl ⟨rfl,rfl,rfl,rfl,rfl,rfl,trivial⟩ Tryz.underlying122 rfl A8 A7 (.cons rfl rfl rfl rfl (.cast (.fld0 .here) rfl) (.cons rfl rfl (Ax _ _) (Ax _ _) (.cast (.fldS (.fld0 .here)) rfl) .nil)) rfl) ?_
 refine .lit (Z:=(Ha (0:Int) ((Vector.replicate 4 (0:Int)).toList.map Ab))) (xs:=(([(AE.mk (1:Int) t36)]:List AE).map AM)) (qs:=[(0,(AM (AE.mk (1:Int) t36)))]) rfl 111 rfl (by decide) rfl ⟨rfl,rfl,rfl,trivial⟩ Tryz.underlying75 BS A8 A7 rfl (by decide) (An (z:=5) [(AM (AE.mk (1:Int) t36))] rfl ⟨⟨rfl,rfl⟩,trivial⟩) rfl fun n37=>?_;refine .a 5 ?_;refine .nK [6,7] ?_;refine .freezeS 0 [(6,(Ba ([(AE.mk (1:Int) t36)]:List AE)))] rfl ⟨Aj rfl,trivial⟩ ?_;refine .coe 6 (y':=(HB ([(AE.mk (1:Int) t36)]:List AE))) rfl (Jl (by simp)) ?_;refine .rK [6,7] ?_;cases h;exact⟨[(HB ([(AE.mk (1:Int) t36)]:List AE)),(AB (AG (p1+t31.2.1)))],⟨rfl,A0,rfl,rfl,trivial⟩,rfl⟩
theorem RZ {k:Nat} {p0:ByteArray} {p1:Int} {p2:Int} {r:((List AE)×Int)} (h:Vp k p0 p1 p2=some r):AY Tryz.prog 77 [(AN p0),(AB p1),(AB p2)] (.tup [(nz 5 (r.1.map AM)),(AB r.2)]):=(Sn k k).1 p0 p1 p2 r h
def R8 (k:Nat) (p0:ByteArray):Option ((List AE)×Int):=
 if(1600:Int)<(p0.size:Int)then some ([],(6:Int))
 else(Vp k p0 (0:Int) (0:Int)).bind fun t3=>
 Option.bind (α:=Bool) (if t3.1=[]then some (true)
 else some (decide (t3.2<(p0.size:Int)))) fun b4=>
 if b4=true then some ([],(5:Int))
 else if(400:Int)<(t3.1.length:Int)then some ([],(6:Int))
 else some (t3.1,(0:Int))
theorem NI {k:Nat} {p0:ByteArray} {r:((List AE)×Int)} (h:R8 k p0=some r):AY Tryz.prog 45 [(AN p0)] (.tup [(.fz 5 (r.1.map AM)),(AB r.2)]):=by
 rw[R8.eq_1]at h;refine AY.intro (res:=[.tmp 2,.tmp 3]) Tryz.func45 rfl rfl rfl (Nat.le_of_ble_eq_true rfl) ?_;refine .a 12 ?_;rcases oi h with⟨c2,h⟩|⟨c2,h⟩
 ·refine .a 5 ?_;refine .nK [2,3] ?_;refine .coeC 2 (y':=(Ba ([]:List AE))) rfl Hi.nil ?_;refine .rK [2,3] ?_;cases h;exact⟨[(Ba ([]:List AE)),(AB (6:Int))],⟨rfl,rfl,rfl,rfl,trivial⟩,rfl⟩
 refine .a 5 ?_;obtain⟨t3,et3,h⟩:=ob h;refine .callS [(AN p0),(AB (0:Int)),(AB (0:Int))] (.tup [(nz 5 (t3.1.map AM)),(AB t3.2)]) 11 rfl (by decide) Zn rfl rfl rfl ⟨rfl,rfl,rfl,rfl,rfl,rfl,trivial⟩ (RZ et3) ?_;refine .a 8 ?_;obtain⟨b4,q5,h⟩:=ob h;refine .regM [(4,(nz 5 (t3.1.map AM))),(21,(AD b4))] [] ?_ ?_
 ·refine .a 1 ?_;refine .c (x:=AD (decide (t3.1=[]))) (.nzE rfl rfl Tryz.underlying75) ?_;refine .a 1 ?_;rcases oi q5 with⟨c6,q5⟩|⟨c6,q5⟩
  ·refine .a 5 ?_;cases q5;refine .nilE ⟨rfl,rfl⟩ ?_ ?_
   ·exact⟨rfl,rfl,trivial⟩
   exact(.refl _)
  refine .a 5 ?_;cases q5;refine .nilE ⟨rfl,rfl⟩ ?_ ?_
  ·exact⟨rfl,rfl,trivial⟩
  exact(.refl _)
 rcases oi h with⟨c7,h⟩|⟨c7,h⟩
 ·refine .a 5 ?_;refine .nK [2,3] ?_;refine .coeC 2 (y':=(Ba ([]:List AE))) rfl Hi.nil ?_;refine .rK [2,3] ?_;cases h;exact⟨[(Ba ([]:List AE)),(AB (5:Int))],⟨rfl,rfl,rfl,rfl,trivial⟩,rfl⟩
 refine .a 6 ?_;refine .c (x:=AB (t3.1.length:Int)) (.lenNz rfl rfl Tryz.underlying75) ?_;refine .a 2 ?_;rcases oi h with⟨c8,h⟩|⟨c8,h⟩
 ·refine .a 5 ?_;refine .nK [2,3] ?_;refine .coeC 2 (y':=(Ba ([]:List AE))) rfl Hi.nil ?_;refine .rK [2,3] ?_;cases h;exact⟨[(Ba ([]:List AE)),(AB (6:Int))],⟨rfl,rfl,rfl,rfl,trivial⟩,rfl⟩
 refine .a 7 ?_;refine .nK [2,3] ?_;refine .coe 2 (y':=(.fz 5 (t3.1.map AM))) rfl K9 ?_;refine .rK [2,3] ?_;cases h;exact⟨[(.fz 5 (t3.1.map AM)),(AB (0:Int))],⟨rfl,rfl,rfl,rfl,trivial⟩,rfl⟩
def Ra (k:Nat) (p0:Int):Option Int:=
 Option.bind (α:=Bool) (if p0<(0:Int)then some (true)
 else some (decide ((6:Int)<p0))) fun b3=>
 if b3=true then some ((-1:Int))
 else if 0≤p0∧p0<(([(0:Int),(0:Int),(2:Int),(2:Int),(1:Int),(1:Int),(1:Int)]:List Int).length:Int)then(some (AA ([(0:Int),(0:Int),(2:Int),(2:Int),(1:Int),(1:Int),(1:Int)]:List Int) p0)).bind fun x8=>
 some (x8)
 else none
theorem Kz {k:Nat} {p0:Int} {r:Int} (h:Ra k p0=some r):AY Tryz.prog 120 [(AB p0)] (AB r):=by
 rw[Ra.eq_1]at h;refine AY.intro (res:=[.tmp 2]) Tryz.func120 rfl rfl rfl (Nat.le_of_ble_eq_true rfl) ?_;refine .a 6 ?_;refine .lit (Z:=(AB (0:Int))) (xs:=(([(0:Int),(0:Int),(2:Int),(2:Int),(1:Int),(1:Int),(1:Int)]:List Int).map AB)) (qs:=[(0,(AB (0:Int))),(1,(AB (0:Int))),(2,(AB (2:Int))),(3,(AB (2:Int))),(4,(AB (1:Int))),(5,(AB (1:Int))),(6,(AB (1:Int)))]) rfl 4 rfl (by decide) rfl ⟨rfl,rfl,rfl,rfl,rfl,rfl,rfl,rfl,rfl,rfl,rfl,rfl,rfl,rfl,rfl,rfl,rfl,rfl,rfl,rfl,rfl,trivial⟩ Tryz.underlying40 Bb Fj DT rfl (by decide) (An (z:=1) [(AB (0:Int)),(AB (0:Int)),(AB (2:Int)),(AB (2:Int)),(AB (1:Int)),(AB (1:Int)),(AB (1:Int))] rfl ⟨⟨rfl,rfl⟩,⟨rfl,rfl⟩,⟨rfl,rfl⟩,⟨rfl,rfl⟩,⟨rfl,rfl⟩,⟨rfl,rfl⟩,⟨rfl,rfl⟩,trivial⟩) rfl fun n2=>?_;refine .a 4 ?_;obtain⟨b3,q4,h⟩:=ob h;refine .regM [(0,(AB p0)),(3,(BL n2 ([(0:Int),(0:Int),(2:Int),(2:Int),(1:Int),(1:Int),(1:Int)]:List Int).length)),(10,(AD b3))] [(n2,(Z3 ([(0:Int),(0:Int),(2:Int),(2:Int),(1:Int),(1:Int),(1:Int)]:List Int)))] ?_ ?_
 ·refine .a 3 ?_;rcases oi q4 with⟨c5,q4⟩|⟨c5,q4⟩
  ·refine .a 3 ?_;cases q4;refine .nilE ⟨rfl,rfl⟩ ?_ ?_
   ·exact⟨rfl,rfl,rfl,trivial⟩
   exact(.refl _)
  refine .a 3 ?_;cases q4;refine .nilE ⟨rfl,rfl⟩ ?_ ?_
  ·exact⟨rfl,rfl,rfl,trivial⟩
  exact(.refl _)
 rcases oi h with⟨c6,h⟩|⟨c6,h⟩
 ·refine .a 4 ?_;refine .nS [2] [] ?_;refine .rK [2] ?_;cases h;exact⟨[(AB (-1:Int))],⟨rfl,rfl,trivial⟩,rfl⟩
 refine .a 6 ?_;obtain⟨g7,h⟩:=AC h;refine .c (.idxO 0 rfl rfl rfl rfl g7 Tryz.underlying40 Bb) ?_;refine .c (.load 0 rfl rfl rfl (.cast (.lidx p0 g7.1 g7.2 .here) (by omega)) Rl Bb) ?_;obtain⟨x8,ex8,h⟩:=ob h;refine .c (.assign rfl (congrArg (fun x=>some (AB x)) (Option.some.inj ex8))) ?_;refine .nS [2] [] ?_;refine .rK [2] ?_;have hr:=Option.some.inj h;subst hr;exact⟨[(AB x8)],⟨rfl,rfl,trivial⟩,rfl⟩
def LZ (k:Nat):Option Int:=
 some ((0:Int))
def BU (k:Nat) (p0:(List AE)):Nat→Int→Int→Option Int
 | 0,_,_=>none
 | j+1,x3,x4=>
   if(0:Int)≤x4 then if 0≤x4∧x4<(p0.length:Int)then(Ra k ((AA p0 x4).f0)).bind fun t9=>
   if(AG ((AG (x3 - (1:Int)))+t9))=(0:Int)then some (x4)
   else(BU k p0 j) (AG ((AG (x3 - (1:Int)))+t9)) (AG (x4 - (1:Int)))
   else none
   else LZ k
def Vd (k:Nat) (p0:(List AE)) (p1:Int):Option Int:=
 BU k p0 k (1:Int) p1
theorem Rk {k:Nat} {p0:(List AE)} {p1:Int} {r:Int} (h:Vd k p0 p1=some r):AY Tryz.prog 121 [(.fz 5 (p0.map AM)),(AB p1)] (AB r):=by
 rw[Vd.eq_1]at h;refine AY.intro (res:=[.tmp 4]) Tryz.func121 rfl rfl rfl (Nat.le_of_ble_eq_true rfl) ?_;refine .a 7 ?_;refine .nK [0,1,5] ?_;refine .seq_mid (fun ρ H=>ρ=[]∧H=[]∧LZ k=some r) ?_ ?_
 ·refine .a 6 ?_;refine .wK [0,5,6] ?_;refine .loop (fun kq ρ H=>∃ (x3:Int) (x4:Int),ρ=[(0,(.fz 5 (p0.map AM))),(5,(AB x3)),(6,(AB x4))]∧H=[]∧BU k p0 kq x3 x4=some r) k ⟨(1:Int),p1,rfl,rfl,h⟩ ?_;rintro kq6 _ _ ⟨x3,x4,rfl,rfl,h⟩
  cases kq6 with
  | zero=>rw[BU.eq_1]at h;cases h
  | succ kq6=>
  rw[BU.eq_2]at h;generalize hrec5:BU k p0 kq6=rec5 at h;refine .a 6 ?_;rcases oi h with⟨c7,h⟩|⟨c7,h⟩
  ·refine .a 10 ?_;obtain⟨g8,h⟩:=AC h;refine .a 1 ?_;refine .c (.fldRp rfl rfl Tryz.underlying122 rfl Bb (.cast (.fld0 .here) rfl)) ?_;refine .a 1 ?_;obtain⟨t9,et9,h⟩:=ob h;refine .callS [(AB ((AA p0 x4).f0))] (AB t9) 19 rfl (by decide) Wn rfl rfl rfl ⟨rfl,rfl,trivial⟩ (Kz et9) ?_;refine .a 8 ?_;rcases oi h with⟨c10,h⟩|⟨c10,h⟩
   ·refine .a 5 ?_;refine .nK [4] ?_;refine .rK [4] ?_;have hr:=Option.some.inj h;subst hr;exact⟨[(AB x4)],⟨rfl,rfl,trivial⟩,rfl⟩
   refine .a 6 ?_;refine .nK [0,5,6] ?_;exact⟨kq6,Nat.lt_succ_self _,(AG ((AG (x3 - (1:Int)))+t9)),(AG (x4 - (1:Int))),rfl,rfl,by rw[hrec5];exact h⟩
  refine .a 1 ?_;refine .eK [] ?_;exact⟨rfl,rfl,h⟩
 rintro _ _ ⟨rfl,rfl,h⟩;rw[LZ.eq_1]at h;refine .a 3 ?_;refine .nK [4] ?_;refine .rK [4] ?_;cases h;exact⟨[(AB (0:Int))],⟨rfl,rfl,trivial⟩,rfl⟩
end Go.Avl.T8
