/- Parts: TCf131, TCf130, TCf77, TCf45, TCf120, TCf121, TCf103, TCf105. -/
import Derived.Test.YtpkgpmmcbpfenaaGreatAF1
import Derived.Test.YtpkgpmmcbpfenaaGreatAF5
namespace Go.Avl.TC
open Go Go.RowKit Go.Proofs Go.Avl
set_option linter.unusedVariables false
set_option maxRecDepth 100000
set_option maxHeartbeats 4000000
attribute [local irreducible] AW AO AQ AM Al AG
def EC (k:Nat) (p0:ByteArray):Option (Int×Int×Bool):=
 Option.bind (α:=Bool) (if(1:Int)<(p0.size:Int)then if 0≤(1:Int)∧(1:Int)<(p0.size:Int)then if(32:Int)≤(AF p0 (1:Int))then if 0≤(1:Int)∧(1:Int)<(p0.size:Int)then if(AF p0 (1:Int))≤(126:Int)then if 0≤(1:Int)∧(1:Int)<(p0.size:Int)then(PN k (AF p0 (1:Int))).bind fun t14=>
 some (!t14)
 else none
 else some (false)
 else none
 else some (false)
 else none
 else some (false)) fun b6=>
 if b6=true then if 0≤(1:Int)∧(1:Int)<(p0.size:Int)then some ((AF p0 (1:Int)),(2:Int),true)
 else none
 else some ((0:Int),(0:Int),false)
def BM (k:Nat) (p0:ByteArray):Nat→Int→Option (Int×Int×Bool)
 | 0,_=>none
 | j+1,x17=>
   if x17<(256:Int)then(Pb k (w8 x17) (ByteArray.mk #[])).bind fun t21=>
   Option.bind (α:=Bool) (if(t21.size:Int)=(2:Int)then if 0≤(1:Int)∧(1:Int)<(t21.size:Int)then if(AF t21 (1:Int))≠(92:Int)then if(1:Int)<(p0.size:Int)then if 0≤(0:Int)∧(0:Int)≤(2:Int)∧(2:Int)≤(p0.size:Int)then some (decide ((p0.extract (0:Int).toNat (2:Int).toNat)=t21))
   else none
   else some (false)
   else some (false)
   else none
   else some (false)) fun b22=>
   if b22=true then some ((w8 x17),(2:Int),true)
   else if 0≤(IntKind.i64.wrap (x17.tdiv (16:Int)))∧(IntKind.i64.wrap (x17.tdiv (16:Int)))≤(AH ((IntKind.i64.wrap (x17.tdiv (16:Int)))+(1:Int)))∧(AH ((IntKind.i64.wrap (x17.tdiv (16:Int)))+(1:Int)))≤((ByteArray.mk #[48,49,50,51,52,53,54,55,56,57,97,98,99,100,101,102]).size:Int)then if(ByteArray.mk #[92,120]).size+((ByteArray.mk #[48,49,50,51,52,53,54,55,56,57,97,98,99,100,101,102]).extract (IntKind.i64.wrap (x17.tdiv (16:Int))).toNat (AH ((IntKind.i64.wrap (x17.tdiv (16:Int)))+(1:Int))).toNat).size≤9223372036854775807 then if 0≤(x17.tmod (16:Int))∧(x17.tmod (16:Int))≤(AH ((x17.tmod (16:Int))+(1:Int)))∧(AH ((x17.tmod (16:Int))+(1:Int)))≤((ByteArray.mk #[48,49,50,51,52,53,54,55,56,57,97,98,99,100,101,102]).size:Int)then if((ByteArray.mk #[92,120])++((ByteArray.mk #[48,49,50,51,52,53,54,55,56,57,97,98,99,100,101,102]).extract (IntKind.i64.wrap (x17.tdiv (16:Int))).toNat (AH ((IntKind.i64.wrap (x17.tdiv (16:Int)))+(1:Int))).toNat)).size+((ByteArray.mk #[48,49,50,51,52,53,54,55,56,57,97,98,99,100,101,102]).extract (x17.tmod (16:Int)).toNat (AH ((x17.tmod (16:Int))+(1:Int))).toNat).size≤9223372036854775807 then Option.bind (α:=Bool) (if(3:Int)<(p0.size:Int)then if 0≤(0:Int)∧(0:Int)≤(4:Int)∧(4:Int)≤(p0.size:Int)then some (decide ((p0.extract (0:Int).toNat (4:Int).toNat)=(((ByteArray.mk #[92,120])++((ByteArray.mk #[48,49,50,51,52,53,54,55,56,57,97,98,99,100,101,102]).extract (IntKind.i64.wrap (x17.tdiv (16:Int))).toNat (AH ((IntKind.i64.wrap (x17.tdiv (16:Int)))+(1:Int))).toNat))++((ByteArray.mk #[48,49,50,51,52,53,54,55,56,57,97,98,99,100,101,102]).extract (x17.tmod (16:Int)).toNat (AH ((x17.tmod (16:Int))+(1:Int))).toNat))))
   else none
   else some (false)) fun b34=>
   if b34=true then some ((w8 x17),(4:Int),true)
   else(BM k p0 j) (AH (x17+(1:Int)))
   else none
   else none
   else none
   else none
   else EC k p0
def Jk (k:Nat) (p0:ByteArray):Option (Int×Int×Bool):=
 if p0=(ByteArray.mk #[])then some ((0:Int),(0:Int),false)
 else if 0≤(0:Int)∧(0:Int)<(p0.size:Int)then if(AF p0 (0:Int))≠(92:Int)then if 0≤(0:Int)∧(0:Int)<(p0.size:Int)then some ((AF p0 (0:Int)),(1:Int),true)
 else none
 else BM k p0 k (0:Int)
 else none
theorem GF {k:Nat} {p0:ByteArray} {r:(Int×Int×Bool)} (h:Jk k p0=some r):AM Tryz.prog 131 [(AI p0)] (.tup [(AY r.1),(AA r.2.1),(AB r.2.2)]):=by
 rw[Jk.eq_1]at h;refine AM.intro (res:=[.tmp 2,.tmp 3,.tmp 4]) Tryz.func131 rfl rfl rfl (Nat.le_of_ble_eq_true rfl) ?_;refine .a 12 ?_;rcases oi h with⟨c2,h⟩|⟨c2,h⟩
 ·refine .a 6 ?_;refine .nK [2,3,4] ?_;refine .rK [2,3,4] ?_;have hr:=Option.some.inj h;subst hr;exact⟨[(AY (0:Int)),(AA (0:Int)),(AB false)],⟨rfl,rfl,rfl,rfl,rfl,rfl,trivial⟩,rfl⟩
 refine .a 6 ?_;obtain⟨g3,h⟩:=AD h;refine .a 3 ?_;rcases oi h with⟨c4,h⟩|⟨c4,h⟩
 ·refine .a 4 ?_;obtain⟨g5,h⟩:=AD h;refine .a 4 ?_;refine .nK [2,3,4] ?_;refine .rK [2,3,4] ?_;have hr:=Option.some.inj h;subst hr;exact⟨[(AY (AF p0 (0:Int))),(AA (1:Int)),(AB true)],⟨rfl,rfl,rfl,rfl,rfl,rfl,trivial⟩,rfl⟩
 refine .a 1 ?_;refine .sK [0] ?_;refine .seq_mid (fun ρ H=>ρ=[(0,(AI p0))]∧H=[]∧EC k p0=some r) ?_ ?_
 ·refine .a 5 ?_;refine .wK [0,5] ?_;refine .loop (fun kq ρ H=>∃ (x17:Int),ρ=[(0,(AI p0)),(5,(AA x17))]∧H=[]∧BM k p0 kq x17=some r) k ⟨(0:Int),rfl,rfl,h⟩ ?_;rintro kq19 _ _ ⟨x17,rfl,rfl,h⟩
  cases kq19 with
  | zero=>rw[BM.eq_1]at h;cases h
  | succ kq19=>
  rw[BM.eq_2]at h;generalize hrec18:BM k p0 kq19=rec18 at h;refine .a 6 ?_;rcases oi h with⟨c20,h⟩|⟨c20,h⟩
  ·refine .a 8 ?_;obtain⟨t21,et21,h⟩:=ob h;refine .callS [(AY (w8 x17)),(AI (ByteArray.mk #[]))] (AI t21) 21 rfl (by decide) TE rfl rfl rfl ⟨rfl,rfl,rfl,rfl,trivial⟩ (MM et21) ?_;refine .a 4 ?_;obtain⟨b22,q23,h⟩:=ob h;refine .regM [(0,(AI p0)),(5,(AA x17)),(40,(AB b22))] [] ?_ ?_
   ·refine .a 4 ?_;rcases oi q23 with⟨c24,q23⟩|⟨c24,q23⟩
    ·refine .a 1 ?_;obtain⟨g25,q23⟩:=AD q23;refine .a 4 ?_;rcases oi q23 with⟨c26,q23⟩|⟨c26,q23⟩
     ·refine .a 5 ?_;rcases oi q23 with⟨c27,q23⟩|⟨c27,q23⟩
      ·refine .a 1 ?_;obtain⟨g28,q23⟩:=AD q23;refine .cG (x:=AI (p0.extract (0:Int).toNat (2:Int).toNat)) rfl rfl (bD (decide_eq_true c27)) (.sliceS rfl rfl rfl rfl g28 Tryz.underlying9) ?_;refine .a 3 ?_;cases q23;refine .nilE ⟨rfl,rfl⟩ ?_ ?_
       ·exact⟨rfl,rfl,rfl,trivial⟩
       exact(.refl _)
      refine .a 5 ?_;cases q23;refine .nilE ⟨rfl,rfl⟩ ?_ ?_
      ·exact⟨rfl,rfl,rfl,trivial⟩
      exact(.refl _)
     refine .a 10 ?_;cases q23;refine .nilE ⟨rfl,rfl⟩ ?_ ?_
     ·exact⟨rfl,rfl,rfl,trivial⟩
     exact(.refl _)
    refine .a 15 ?_;cases q23;refine .nilE ⟨rfl,rfl⟩ ?_ ?_
    ·exact⟨rfl,rfl,rfl,trivial⟩
    exact(.refl _)
   rcases oi h with⟨c29,h⟩|⟨c29,h⟩
   ·refine .a 8 ?_;refine .nK [2,3,4] ?_;refine .rK [2,3,4] ?_;have hr:=Option.some.inj h;subst hr;exact⟨[(AY (w8 x17)),(AA (2:Int)),(AB true)],⟨rfl,rfl,rfl,rfl,rfl,rfl,trivial⟩,rfl⟩
   refine .a 3 ?_;refine .regQ (by rfl) (by decide+kernel) ?_;refine .a 1 ?_;refine .c (x:=AA (IntKind.i64.wrap (x17.tdiv (16:Int)))) (.quo rfl rfl rfl (by decide)) ?_;refine .a 1 ?_;refine .c (x:=AA (IntKind.i64.wrap (x17.tdiv (16:Int)))) (.quo rfl rfl rfl (by decide)) ?_;refine .a 1 ?_;obtain⟨g30,h⟩:=AD h;refine .c (x:=AI ((ByteArray.mk #[48,49,50,51,52,53,54,55,56,57,97,98,99,100,101,102]).extract (IntKind.i64.wrap (x17.tdiv (16:Int))).toNat (AH ((IntKind.i64.wrap (x17.tdiv (16:Int)))+(1:Int))).toNat)) (.sliceS rfl rfl rfl rfl g30 Tryz.underlying9) ?_;obtain⟨g31,h⟩:=AD h;refine .c (x:=AI ((ByteArray.mk #[92,120])++((ByteArray.mk #[48,49,50,51,52,53,54,55,56,57,97,98,99,100,101,102]).extract (IntKind.i64.wrap (x17.tdiv (16:Int))).toNat (AH ((IntKind.i64.wrap (x17.tdiv (16:Int)))+(1:Int))).toNat))) (.cat rfl rfl rfl g31) ?_;refine .a 1 ?_;refine .c (x:=AA (x17.tmod (16:Int))) (.rem rfl rfl rfl (by decide)) ?_;refine .a 1 ?_;refine .c (x:=AA (x17.tmod (16:Int))) (.rem rfl rfl rfl (by decide)) ?_;refine .a 1 ?_;obtain⟨g32,h⟩:=AD h;refine .c (x:=AI ((ByteArray.mk #[48,49,50,51,52,53,54,55,56,57,97,98,99,100,101,102]).extract (x17.tmod (16:Int)).toNat (AH ((x17.tmod (16:Int))+(1:Int))).toNat)) (.sliceS rfl rfl rfl rfl g32 Tryz.underlying9) ?_;obtain⟨g33,h⟩:=AD h
   refine .c (x:=AI (((ByteArray.mk #[92,120])++((ByteArray.mk #[48,49,50,51,52,53,54,55,56,57,97,98,99,100,101,102]).extract (IntKind.i64.wrap (x17.tdiv (16:Int))).toNat (AH ((IntKind.i64.wrap (x17.tdiv (16:Int)))+(1:Int))).toNat))++((ByteArray.mk #[48,49,50,51,52,53,54,55,56,57,97,98,99,100,101,102]).extract (x17.tmod (16:Int)).toNat (AH ((x17.tmod (16:Int))+(1:Int))).toNat))) (.cat rfl rfl rfl g33) ?_;refine .a 3 ?_;obtain⟨b34,q35,h⟩:=ob h;refine .regM [(0,(AI p0)),(5,(AA x17)),(65,(AB b34))] [] ?_ ?_
   ·refine .a 4 ?_;rcases oi q35 with⟨c36,q35⟩|⟨c36,q35⟩
    ·refine .a 1 ?_;obtain⟨g37,q35⟩:=AD q35;refine .cG (x:=AI (p0.extract (0:Int).toNat (4:Int).toNat)) rfl rfl (bD (decide_eq_true c36)) (.sliceS rfl rfl rfl rfl g37 Tryz.underlying9) ?_;refine .a 3 ?_;cases q35;refine .nilE ⟨rfl,rfl⟩ ?_ ?_
     ·exact⟨rfl,rfl,rfl,trivial⟩
     exact(.refl _)
    refine .sT rfl rfl (bD (decide_eq_false c36)) ?_;refine .sT rfl rfl (bD (decide_eq_false c36)) ?_;refine .sT rfl rfl (bD (decide_eq_false c36)) ?_;refine .sT rfl rfl (bD (decide_eq_false c36)) ?_;refine .c (.pickF rfl (bD (decide_eq_false c36)) rfl) ?_;cases q35;refine .nilE ⟨rfl,rfl⟩ ?_ ?_
    ·exact⟨rfl,rfl,rfl,trivial⟩
    exact(.refl _)
   rcases oi h with⟨c38,h⟩|⟨c38,h⟩
   ·refine .condT' _ rfl c38 ?_;refine .sr ?_;refine .mv rfl rfl ?_;refine .c (x:=AY (w8 x17)) (.conv rfl rfl Tryz.underlying3 Tryz.underlying5) ?_;refine .ag rfl rfl ?_;refine .ag rfl rfl ?_;refine .ag rfl rfl ?_;refine .nK [2,3,4] ?_;refine .rK [2,3,4] ?_;have hr:=Option.some.inj h;subst hr;exact⟨[(AY (w8 x17)),(AA (4:Int)),(AB true)],⟨rfl,rfl,rfl,rfl,rfl,rfl,trivial⟩,rfl⟩
   refine .a 6 ?_;refine .nK [0,5] ?_;exact⟨kq19,Nat.lt_succ_self _,(AH (x17+(1:Int))),rfl,rfl,by rw[hrec18];exact h⟩
  refine .a 1 ?_;refine .eK [0] ?_;exact⟨rfl,rfl,h⟩
 rintro _ _ ⟨rfl,rfl,h⟩;rw[EC.eq_1]at h;refine .a 2 ?_;obtain⟨b6,q7,h⟩:=ob h;refine .regM [(0,(AI p0)),(86,(AB b6))] [] ?_ ?_
 ·refine .a 4 ?_;rcases oi q7 with⟨c8,q7⟩|⟨c8,q7⟩
  ·refine .a 1 ?_;obtain⟨g9,q7⟩:=AD q7;refine .a 4 ?_;rcases oi q7 with⟨c10,q7⟩|⟨c10,q7⟩
   ·refine .a 1 ?_;obtain⟨g11,q7⟩:=AD q7;refine .a 4 ?_;rcases oi q7 with⟨c12,q7⟩|⟨c12,q7⟩
    ·refine .a 1 ?_;obtain⟨g13,q7⟩:=AD q7;refine .a 1 ?_;obtain⟨t14,et14,q7⟩:=ob q7;refine .callG 13 true 81 [(AY (AF p0 (1:Int)))] (AB t14) 84 rfl (by decide) Q4 rfl rfl (bD (decide_eq_true c12)) rfl rfl ⟨rfl,rfl,trivial⟩ (H5 et14) ?_;refine .a 2 ?_;cases q7;refine .nilE ⟨rfl,rfl⟩ ?_ ?_
     ·exact⟨rfl,rfl,trivial⟩
     exact(.refl _)
    refine .a 5 ?_;cases q7;refine .nilE ⟨rfl,rfl⟩ ?_ ?_
    ·exact⟨rfl,rfl,trivial⟩
    exact(.refl _)
   refine .a 10 ?_;cases q7;refine .nilE ⟨rfl,rfl⟩ ?_ ?_
   ·exact⟨rfl,rfl,trivial⟩
   exact(.refl _)
  refine .a 15 ?_;cases q7;refine .nilE ⟨rfl,rfl⟩ ?_ ?_
  ·exact⟨rfl,rfl,trivial⟩
  exact(.refl _)
 rcases oi h with⟨c15,h⟩|⟨c15,h⟩
 ·refine .a 4 ?_;obtain⟨g16,h⟩:=AD h;refine .a 4 ?_;refine .nK [2,3,4] ?_;refine .rK [2,3,4] ?_;have hr:=Option.some.inj h;subst hr;exact⟨[(AY (AF p0 (1:Int))),(AA (2:Int)),(AB true)],⟨rfl,rfl,rfl,rfl,rfl,rfl,trivial⟩,rfl⟩
 refine .a 7 ?_;refine .nK [2,3,4] ?_;refine .rK [2,3,4] ?_;have hr:=Option.some.inj h;subst hr;exact⟨[(AY (0:Int)),(AA (0:Int)),(AB false)],⟨rfl,rfl,rfl,rfl,rfl,rfl,trivial⟩,rfl⟩
def Es (k:Nat) (p0:ByteArray) (x10:Int) (x14:(Vector Int 4)):Option ((List AE)×Int):=
 Option.bind (α:=Bool) (if(p0.size:Int)≤x10 then some (true)
 else some (decide (x14=(Vector.replicate 4 (0:Int))))) fun b15=>
 if b15=true then some ([],x10)
 else some ([(AE.mk (1:Int) x14)],(AH (x10+(1:Int))))
def Gk (k:Nat) (p0:ByteArray) (b5:Bool) (x10:Int) (x11:(List Bool)):Option ((List AE)×Int):=
 (J8 k x11).bind fun t12=>
 if b5=true then(K9 k (3:Int) t12 t12).bind fun t21=>
 Es k p0 x10 t21
 else Es k p0 x10 t12
def CS (k:Nat) (rec24:(Int→(List Bool)→Option ((List AE)×Int))) (x39:Int) (x40:Int):Nat→(List Bool)→Int→Option ((List AE)×Int)
 | 0,_,_=>none
 | j+1,x41,x42=>
   if x42≤(AH x40)then if 0≤x42∧x42<(x41.length:Int)then(CS k rec24 x39 x40 j) (Ac x41 x42 true) (AH (x42+(1:Int)))
   else none
   else rec24 x39 x41
def EL (k:Nat) (rec24:(Int→(List Bool)→Option ((List AE)×Int))) (x23:(List Bool)) (t32:(Int×Int×Bool)) (x39:Int) (x40:Int):Option ((List AE)×Int):=
 CS k rec24 x39 x40 k x23 (AH t32.1)
def CE (k:Nat) (p0:ByteArray) (b5:Bool):Nat→Int→(List Bool)→Option ((List AE)×Int)
 | 0,_,_=>none
 | j+1,x22,x23=>
   Option.bind (α:=Bool) (if x22<(p0.size:Int)then if 0≤x22∧x22<(p0.size:Int)then some (decide ((AF p0 x22)≠(93:Int)))
   else none
   else some (false)) fun b26=>
   if b26=true then if 0≤x22∧x22≤(p0.size:Int)∧(p0.size:Int)≤(p0.size:Int)then(Jk k (p0.extract x22.toNat (p0.size:Int).toNat)).bind fun t32=>
   Option.bind (α:=Bool) (if(!t32.2.2)=true then some (true)
   else if 0≤x22∧x22<(p0.size:Int)then(F2 k (ByteArray.mk #[94,45,47,34]) (AF p0 x22)).bind fun t37=>
   some (t37)
   else none) fun b33=>
   if b33=true then some ([],x22)
   else Option.bind (α:=Bool) (if(AH (x22+t32.2.1))<(p0.size:Int)then if 0≤(AH (x22+t32.2.1))∧(AH (x22+t32.2.1))<(p0.size:Int)then some (decide ((AF p0 (AH (x22+t32.2.1)))=(45:Int)))
   else none
   else some (false)) fun b47=>
   if b47=true then Option.bind (α:=Bool) (if(p0.size:Int)≤(AH ((AH (x22+t32.2.1))+(1:Int)))then some (true)
   else if 0≤(AH ((AH (x22+t32.2.1))+(1:Int)))∧(AH ((AH (x22+t32.2.1))+(1:Int)))<(p0.size:Int)then(F2 k (ByteArray.mk #[93,94,45,47,34]) (AF p0 (AH ((AH (x22+t32.2.1))+(1:Int))))).bind fun t56=>
   some (t56)
   else none) fun b52=>
   if b52=true then some ([],(AH ((AH (x22+t32.2.1))+(1:Int))))
   else if 0≤(AH ((AH (x22+t32.2.1))+(1:Int)))∧(AH ((AH (x22+t32.2.1))+(1:Int)))≤(p0.size:Int)∧(p0.size:Int)≤(p0.size:Int)then(Jk k (p0.extract (AH ((AH (x22+t32.2.1))+(1:Int))).toNat (p0.size:Int).toNat)).bind fun t59=>
   Option.bind (α:=Bool) (if(!t59.2.2)=true then some (true)
   else some (decide (t59.1<t32.1))) fun b60=>
   if b60=true then some ([],(AH ((AH (x22+t32.2.1))+(1:Int))))
   else EL k (CE k p0 b5 j) x23 t32 (AH ((AH ((AH (x22+t32.2.1))+(1:Int)))+t59.2.1)) t59.1
   else none
   else EL k (CE k p0 b5 j) x23 t32 (AH (x22+t32.2.1)) t32.1
   else none
   else Gk k p0 b5 x22 x23
def Gc (k:Nat) (p0:ByteArray) (b5:Bool) (x9:Int):Option ((List AE)×Int):=
 CE k p0 b5 k x9 (List.replicate (256:Int).toNat false)
def NA (k:Nat) (p0:ByteArray) (p1:Int):Option ((List AE)×Int):=
 if 0≤(256:Int)∧(256:Int)*(1:Int)≤140737488355328∧(256:Int)≤9223372036854775807 then Option.bind (α:=Bool) (if p1<(p0.size:Int)then if 0≤p1∧p1<(p0.size:Int)then some (decide ((AF p0 p1)=(94:Int)))
 else none
 else some (false)) fun b5=>
 if b5=true then Gc k p0 b5 (AH (p1+(1:Int)))
 else Gc k p0 b5 p1
 else none
theorem Mt {k:Nat} {p0:ByteArray} {p1:Int} {r:((List AE)×Int)} (h:NA k p0 p1=some r):AM Tryz.prog 130 [(AI p0),(AA p1)] (.tup [(nz 5 (r.1.map AJ)),(AA r.2)]):=by
 rw[NA.eq_1]at h;refine AM.intro (res:=[.tmp 4,.tmp 5]) Tryz.func130 rfl rfl rfl (Nat.le_of_ble_eq_true rfl) ?_;refine .a 7 ?_;obtain⟨g4,h⟩:=AD h;refine .makeL (f:=AB) false rfl 14 rfl (by decide) rfl rfl rfl Tryz.underlying95 C1 KS GV E8 rfl g4 fun n3=>?_;refine .a 3 ?_;obtain⟨b5,q6,h⟩:=ob h;refine .regM [(0,(AI p0)),(1,(AA p1)),(6,(.own n3 0 (List.replicate (256:Int).toNat false).length)),(7,(AB b5))] [(Cy n3 (List.replicate (256:Int).toNat false))] ?_ ?_
 ·refine .a 5 ?_;rcases oi q6 with⟨c7,q6⟩|⟨c7,q6⟩
  ·refine .a 2 ?_;obtain⟨g8,q6⟩:=AD q6;refine .a 4 ?_;cases q6;refine .nilE ⟨rfl,rfl⟩ ?_ ?_
   ·exact⟨rfl,rfl,rfl,rfl,trivial⟩
   exact(.refl _)
  refine .a 6 ?_;cases q6;refine .nilE ⟨rfl,rfl⟩ ?_ ?_
  ·exact⟨rfl,rfl,rfl,rfl,trivial⟩
  exact(.refl _)
 refine .seq_mid (fun ρ H=>∃ (x9:Int),ρ=[(0,(AI p0)),(1,(AA x9)),(6,(.own n3 0 (List.replicate (256:Int).toNat false).length)),(7,(AB b5))]∧H=[(Cy n3 (List.replicate (256:Int).toNat false))]∧Gc k p0 b5 x9=some r) ?_ ?_
 ·refine .a 4 ?_;rcases oi h with⟨c64,h⟩|⟨c64,h⟩
  ·refine .a 5 ?_;refine .nK [0,1,6,7] ?_;exact⟨(AH (p1+(1:Int))),rfl,rfl,h⟩
  refine .a 1 ?_;refine .sK [0,1,6,7] ?_;exact⟨p1,rfl,rfl,h⟩
 rintro _ _ ⟨x9,rfl,rfl,h⟩;rw[Gc.eq_1]at h;refine .seq_mid (fun ρ H=>∃ (x10:Int) (x11:(List Bool)),ρ=[(0,(AI p0)),(1,(AA x10)),(6,(.own n3 0 x11.length)),(7,(AB b5))]∧H=[(Cy n3 x11)]∧Gk k p0 b5 x10 x11=some r) ?_ ?_
 ·refine .a 1 ?_;refine .wK [0,1,6,7] ?_;refine .loop (fun kq ρ H=>∃ (x22:Int) (x23:(List Bool)),ρ=[(0,(AI p0)),(1,(AA x22)),(6,(.own n3 0 x23.length)),(7,(AB b5))]∧H=[(Cy n3 x23)]∧CE k p0 b5 kq x22 x23=some r) k ⟨x9,(List.replicate (256:Int).toNat false),rfl,rfl,h⟩ ?_;rintro kq25 _ _ ⟨x22,x23,rfl,rfl,h⟩
  cases kq25 with
  | zero=>rw[CE.eq_1]at h;cases h
  | succ kq25=>
  rw[CE.eq_2]at h;generalize hrec24:CE k p0 b5 kq25=rec24 at h;refine .a 2 ?_;obtain⟨b26,q27,h⟩:=ob h;refine .regM [(0,(AI p0)),(1,(AA x22)),(6,(.own n3 0 x23.length)),(7,(AB b5)),(37,(AB b26))] [(Cy n3 x23)] ?_ ?_
  ·refine .a 5 ?_;rcases oi q27 with⟨c28,q27⟩|⟨c28,q27⟩
   ·refine .a 2 ?_;obtain⟨g29,q27⟩:=AD q27;refine .a 3 ?_;cases q27;refine .nilE ⟨rfl,rfl⟩ ?_ ?_
    ·exact⟨rfl,rfl,rfl,rfl,rfl,trivial⟩
    exact(.refl _)
   refine .a 5 ?_;cases q27;refine .nilE ⟨rfl,rfl⟩ ?_ ?_
   ·exact⟨rfl,rfl,rfl,rfl,rfl,trivial⟩
   exact(.refl _)
  rcases oi h with⟨c30,h⟩|⟨c30,h⟩
  ·refine .a 7 ?_;obtain⟨g31,h⟩:=AD h;refine .c (x:=AI (p0.extract x22.toNat (p0.size:Int).toNat)) (.sliceS rfl rfl rfl rfl g31 Tryz.underlying9) ?_;obtain⟨t32,et32,h⟩:=ob h;refine .callS [(AI (p0.extract x22.toNat (p0.size:Int).toNat))] (.tup [(AY t32.1),(AA t32.2.1),(AB t32.2.2)]) 42 rfl (by decide) ON rfl rfl rfl ⟨rfl,rfl,trivial⟩ (GF et32) ?_;refine .a 10 ?_;obtain⟨b33,q34,h⟩:=ob h;refine .regM [(0,(AI p0)),(1,(AA x22)),(6,(.own n3 0 x23.length)),(7,(AB b5)),(8,(AY t32.1)),(9,(AA t32.2.1)),(53,(AB b33))] [(Cy n3 x23)] ?_ ?_
   ·refine .a 3 ?_;rcases oi q34 with⟨c35,q34⟩|⟨c35,q34⟩
    ·refine .a 5 ?_;cases q34;refine .nilE ⟨rfl,rfl⟩ ?_ ?_
     ·exact⟨rfl,rfl,rfl,rfl,rfl,rfl,rfl,trivial⟩
     exact(.refl _)
    refine .a 2 ?_;obtain⟨g36,q34⟩:=AD q34;refine .a 1 ?_;obtain⟨t37,et37,q34⟩:=ob q34;refine .callG 2 false 48 [(AI (ByteArray.mk #[94,45,47,34])),(AY (AF p0 x22))] (AB t37) 52 rfl (by decide) Ji rfl rfl (bD (eq_false_of_ne_true c35)) rfl rfl ⟨rfl,rfl,rfl,rfl,trivial⟩ (D1 et37) ?_;refine .a 1 ?_;cases q34;refine .nilE ⟨rfl,rfl⟩ ?_ ?_
    ·exact⟨rfl,rfl,rfl,rfl,rfl,rfl,rfl,trivial⟩
    exact(.refl _)
   rcases oi h with⟨c38,h⟩|⟨c38,h⟩
   ·refine .a 6 ?_;refine .nS [4,5] [] ?_;refine .coe 4 (y':=(FO ([]:List AE))) rfl (fun _ _ h=>h) ?_;refine .rK [4,5] ?_;cases h;exact⟨[(FO ([]:List AE)),(AA x22)],⟨rfl,Ap,rfl,rfl,trivial⟩,rfl⟩
   refine .a 13 ?_;refine .nK [0,1,6,7,8,11] ?_;refine .seq_mid (fun ρ H=>∃ (x39:Int) (x40:Int),ρ=[(0,(AI p0)),(1,(AA x39)),(6,(.own n3 0 x23.length)),(7,(AB b5)),(8,(AY t32.1)),(11,(AY x40))]∧H=[(Cy n3 x23)]∧EL k rec24 x23 t32 x39 x40=some r) ?_ ?_
   ·refine .seq ?_;obtain⟨b47,q48,h⟩:=ob h;refine .regM [(0,(AI p0)),(1,(AA (AH (x22+t32.2.1)))),(6,(.own n3 0 x23.length)),(7,(AB b5)),(8,(AY t32.1)),(11,(AY t32.1)),(68,(AB b47))] [(Cy n3 x23)] ?_ ?_
    ·refine .a 5 ?_;rcases oi q48 with⟨c49,q48⟩|⟨c49,q48⟩
     ·refine .a 2 ?_;obtain⟨g50,q48⟩:=AD q48;refine .a 3 ?_;cases q48;refine .nilE ⟨rfl,rfl⟩ ?_ ?_
      ·exact⟨rfl,rfl,rfl,rfl,rfl,rfl,rfl,trivial⟩
      exact(.refl _)
     refine .a 5 ?_;cases q48;refine .nilE ⟨rfl,rfl⟩ ?_ ?_
     ·exact⟨rfl,rfl,rfl,rfl,rfl,rfl,rfl,trivial⟩
     exact(.refl _)
    rcases oi h with⟨c51,h⟩|⟨c51,h⟩
    ·refine .a 9 ?_;obtain⟨b52,q53,h⟩:=ob h;refine .regM [(0,(AI p0)),(1,(AA (AH ((AH (x22+t32.2.1))+(1:Int))))),(6,(.own n3 0 x23.length)),(7,(AB b5)),(8,(AY t32.1)),(80,(AB b52))] [(Cy n3 x23)] ?_ ?_
     ·refine .a 5 ?_;rcases oi q53 with⟨c54,q53⟩|⟨c54,q53⟩
      ·refine .a 5 ?_;cases q53;refine .nilE ⟨rfl,rfl⟩ ?_ ?_
       ·exact⟨rfl,rfl,rfl,rfl,rfl,rfl,trivial⟩
       exact(.refl _)
      refine .a 2 ?_;obtain⟨g55,q53⟩:=AD q53;refine .a 1 ?_;obtain⟨t56,et56,q53⟩:=ob q53;refine .callG 4 false 75 [(AI (ByteArray.mk #[93,94,45,47,34])),(AY (AF p0 (AH ((AH (x22+t32.2.1))+(1:Int)))))] (AB t56) 79 rfl (by decide) Ji rfl rfl (bD (decide_eq_false c54)) rfl rfl ⟨rfl,rfl,rfl,rfl,trivial⟩ (D1 et56) ?_;refine .a 1 ?_;cases q53;refine .nilE ⟨rfl,rfl⟩ ?_ ?_
      ·exact⟨rfl,rfl,rfl,rfl,rfl,rfl,trivial⟩
      exact(.refl _)
     rcases oi h with⟨c57,h⟩|⟨c57,h⟩
     ·refine .a 6 ?_;refine .nS [4,5] [] ?_;refine .coe 4 (y':=(FO ([]:List AE))) rfl (fun _ _ h=>h) ?_;refine .rK [4,5] ?_;cases h;exact⟨[(FO ([]:List AE)),(AA (AH ((AH (x22+t32.2.1))+(1:Int))))],⟨rfl,Ap,rfl,rfl,trivial⟩,rfl⟩
     refine .a 6 ?_;obtain⟨g58,h⟩:=AD h;refine .c (x:=AI (p0.extract (AH ((AH (x22+t32.2.1))+(1:Int))).toNat (p0.size:Int).toNat)) (.sliceS rfl rfl rfl rfl g58 Tryz.underlying9) ?_;obtain⟨t59,et59,h⟩:=ob h;refine .callS [(AI (p0.extract (AH ((AH (x22+t32.2.1))+(1:Int))).toNat (p0.size:Int).toNat))] (.tup [(AY t59.1),(AA t59.2.1),(AB t59.2.2)]) 86 rfl (by decide) ON rfl rfl rfl ⟨rfl,rfl,trivial⟩ (GF et59) ?_;refine .a 10 ?_;obtain⟨b60,q61,h⟩:=ob h;refine .regM [(0,(AI p0)),(1,(AA (AH ((AH (x22+t32.2.1))+(1:Int))))),(6,(.own n3 0 x23.length)),(7,(AB b5)),(8,(AY t32.1)),(9,(AA t59.2.1)),(11,(AY t59.1)),(96,(AB b60))] [(Cy n3 x23)] ?_ ?_
     ·refine .a 3 ?_;rcases oi q61 with⟨c62,q61⟩|⟨c62,q61⟩
      ·refine .a 4 ?_;cases q61;refine .nilE ⟨rfl,rfl⟩ ?_ ?_
       ·exact⟨rfl,rfl,rfl,rfl,rfl,rfl,rfl,rfl,trivial⟩
       exact(.refl _)
      refine .a 4 ?_;cases q61;refine .nilE ⟨rfl,rfl⟩ ?_ ?_
      ·exact⟨rfl,rfl,rfl,rfl,rfl,rfl,rfl,rfl,trivial⟩
      exact(.refl _)
     rcases oi h with⟨c63,h⟩|⟨c63,h⟩
     ·refine .a 6 ?_;refine .nS [4,5] [] ?_;refine .coe 4 (y':=(FO ([]:List AE))) rfl (fun _ _ h=>h) ?_;refine .rK [4,5] ?_;cases h;exact⟨[(FO ([]:List AE)),(AA (AH ((AH (x22+t32.2.1))+(1:Int))))],⟨rfl,Ap,rfl,rfl,trivial⟩,rfl⟩
     refine .a 7 ?_;refine .nK [0,1,6,7,8,11] ?_;exact⟨(AH ((AH ((AH (x22+t32.2.1))+(1:Int)))+t59.2.1)),t59.1,rfl,rfl,h⟩
    refine .a 1 ?_;refine .sK [0,1,6,7,8,11] ?_;exact⟨(AH (x22+t32.2.1)),t32.1,rfl,rfl,h⟩
   rintro _ _ ⟨x39,x40,rfl,rfl,h⟩;rw[EL.eq_1]at h;refine .a 7 ?_;refine .wK [0,1,6,7,11,12] ?_;refine .loop (fun kq ρ H=>∃ (x41:(List Bool)) (x42:Int),ρ=[(0,(AI p0)),(1,(AA x39)),(6,(.own n3 0 x41.length)),(7,(AB b5)),(11,(AY x40)),(12,(AA x42))]∧H=[(Cy n3 x41)]∧CS k rec24 x39 x40 kq x41 x42=some r) k ⟨x23,(AH t32.1),rfl,rfl,h⟩ ?_;rintro kq44 _ _ ⟨x41,x42,rfl,rfl,h⟩
   cases kq44 with
   | zero=>rw[CS.eq_1]at h;cases h
   | succ kq44=>
   rw[CS.eq_2]at h;generalize hrec43:CS k rec24 x39 x40 kq44=rec43 at h;refine .a 8 ?_;rcases oi h with⟨c45,h⟩|⟨c45,h⟩
   ·refine .a 7 ?_;obtain⟨g46,h⟩:=AD h;refine .a 1 ?_;refine .store 0 rfl rfl rfl rfl rfl rfl (.cast (.lidx x42 true g46.1 g46.2 .here) (by omega)) rfl rfl C1 rfl ?_;refine .coe 6 (y':=(.own n3 0 (Ac x41 x42 true).length)) rfl (fun _ _ h=>Av h) ?_;refine .coe 109 (y':=(.own n3 0 (Ac x41 x42 true).length)) rfl (fun _ _ h=>Av h) ?_;refine .a 5 ?_;refine .nK [0,1,6,7,11,12] ?_;exact⟨kq44,Nat.lt_succ_self _,(Ac x41 x42 true),(AH (x42+(1:Int))),rfl,rfl,by rw[hrec43];exact h⟩
   refine .a 1 ?_;refine .eK [0,1,6,7] ?_;exact⟨kq25,Nat.lt_succ_self _,x39,x41,rfl,rfl,by rw[hrec24];exact h⟩
  refine .a 1 ?_;refine .eK [0,1,6,7] ?_;exact⟨x22,x23,rfl,rfl,h⟩
 rintro _ _ ⟨x10,x11,rfl,rfl,h⟩;rw[Gk.eq_1]at h;refine .a 3 ?_;obtain⟨t12,et12,h⟩:=ob h;refine .freezeS 0 [(6,(.fz 1 (x11.map AB))),(112,(.fz 1 (x11.map AB)))] rfl ⟨Ad rfl,Ad rfl,trivial⟩ ?_;refine .callS [(.fz 1 (x11.map AB))] (.ar 1 (t12.toList.map AL)) 113 rfl (by decide) O9 rfl rfl rfl ⟨rfl,rfl,trivial⟩ (Fz et12) ?_;refine .alloc rfl 13 rfl (by decide) rfl Bq BP fun n13=>?_;refine .store 0 rfl rfl rfl rfl rfl rfl (.cast .here rfl) rfl (by simp[AV.size]) (by rw[BX];simp[AV.size]) rfl ?_;refine .nK [0,1,7,13] ?_;refine .seq_mid (fun ρ H=>∃ (x14:(Vector Int 4)),ρ=[(0,(AI p0)),(1,(AA x10)),(13,(.ptr n13 0))]∧H=[(Ba n13 (x14.toList.map AL))]∧Es k p0 x10 x14=some r) ?_ ?_
 ·refine .a 4 ?_;rcases oi h with⟨c20,h⟩|⟨c20,h⟩
  ·refine .a 4 ?_;obtain⟨t21,et21,h⟩:=ob h;refine .callS [(AA (3:Int)),(.ar 1 (t12.toList.map AL)),(.ar 1 (t12.toList.map AL))] (.ar 1 (t21.toList.map AL)) 117 rfl (by decide) Qc rfl rfl rfl ⟨rfl,rfl,rfl,rfl,rfl,rfl,trivial⟩ (IP et21) ?_;refine .store 0 rfl rfl rfl rfl rfl rfl (.cast .here rfl) rfl (by simp[AV.size]) (by rw[BX];simp[AV.size]) rfl ?_;refine .nK [0,1,13] ?_;exact⟨t21,rfl,rfl,h⟩
  refine .a 1 ?_;refine .sK [0,1,13] ?_;exact⟨t12,rfl,rfl,h⟩
 rintro _ _ ⟨x14,rfl,rfl,h⟩;rw[Es.eq_1]at h;refine .a 2 ?_;obtain⟨b15,q16,h⟩:=ob h;refine .regM [(1,(AA x10)),(13,(.ptr n13 0)),(126,(AB b15))] [(Ba n13 (x14.toList.map AL))] ?_ ?_
 ·refine .a 5 ?_;rcases oi q16 with⟨c17,q16⟩|⟨c17,q16⟩
  ·refine .a 4 ?_;cases q16;refine .nilE ⟨rfl,rfl⟩ ?_ ?_
   ·exact⟨rfl,rfl,rfl,trivial⟩
   exact(.refl _)
  refine .a 1 ?_;refine .cG (x:=.ar 1 ((Vector.replicate 4 (0:Int)).toList.map AL)) rfl rfl (bD (decide_eq_false c17)) (.buildAr (qs:=[]) rfl trivial Tryz.underlying120 BE Bq BP .nil rfl) ?_;refine .cG (x:=AB (decide (x14=(Vector.replicate 4 (0:Int))))) rfl rfl (bD (decide_eq_false c17)) (.eqA rfl rfl rfl Qe (PG x14 (Vector.replicate 4 (0:Int))) (by decide)) ?_;refine .a 1 ?_;cases q16;refine .nilE ⟨rfl,rfl⟩ ?_ ?_
  ·exact⟨rfl,rfl,rfl,trivial⟩
  exact(.refl _)
 rcases oi h with⟨c18,h⟩|⟨c18,h⟩
 ·refine .a 6 ?_;refine .nS [4,5] [] ?_;refine .coe 4 (y':=(FO ([]:List AE))) rfl (fun _ _ h=>h) ?_;refine .rK [4,5] ?_;cases h;exact⟨[(FO ([]:List AE)),(AA x10)],⟨rfl,Ap,rfl,rfl,trivial⟩,rfl⟩
 refine .a 5 ?_;refine .c (x:=(Ff (1:Int) (x14.toList.map AL))) (.build (qs:=[(0,(AA (1:Int))),(1,(.ar 1 (x14.toList.map AL)))]) rfl ⟨rfl,rfl,rfl,rfl,rfl,rfl,trivial⟩ Tryz.underlying122 rfl Aw Au (.cons rfl rfl rfl rfl (.cast (.fld0 .here) rfl) (.cons rfl rfl (Az _ _) (Az _ _) (.cast (.fldS (.fld0 .here)) rfl) .nil)) rfl) ?_;refine .lit (Z:=(Ff (0:Int) ((Vector.replicate 4 (0:Int)).toList.map AL))) (xs:=(([(AE.mk (1:Int) x14)]:List AE).map AJ)) (qs:=[(0,(AJ (AE.mk (1:Int) x14)))]) rfl 130 rfl (by decide) rfl ⟨rfl,rfl,rfl,trivial⟩ Tryz.underlying75 BC Aw Au rfl (by decide) (Aj (z:=5) [(AJ (AE.mk (1:Int) x14))] rfl ⟨⟨rfl,rfl⟩,trivial⟩) rfl fun n19=>?_;refine .a 4 ?_;refine .nS [4,5] [0] ?_;refine .freezeS 0 [(4,(BK ([(AE.mk (1:Int) x14)]:List AE)))] rfl ⟨Ad rfl,trivial⟩ ?_;refine .coe 4 (y':=(FO ([(AE.mk (1:Int) x14)]:List AE))) rfl (Hb (by simp)) ?_;refine .rK [4,5] ?_;cases h;exact⟨[(FO ([(AE.mk (1:Int) x14)]:List AE)),(AA (AH (x10+(1:Int))))],⟨rfl,Ap,rfl,rfl,trivial⟩,rfl⟩
def Gm (k:Nat) (x5:Int) (x6:(List AE)):Option ((List AE)×Int):=
 some (x6,x5)
def CX (k:Nat) (self102:(ByteArray→Int→Int→Option ((List AE)×Int))) (p0:ByteArray) (p2:Int):Nat→Int→(List AE)→Option ((List AE)×Int)
 | 0,_,_=>none
 | j+1,x7,x8=>
   Option.bind (α:=Bool) (if x8≠[]then if x7<(p0.size:Int)then if 0≤x7∧x7<(p0.size:Int)then some (decide ((AF p0 x7)=(124:Int)))
   else none
   else some (false)
   else some (false)) fun b11=>
   if b11=true then(self102 p0 (AH (x7+(1:Int))) p2).bind fun t17=>
   if t17.1=[]then some ([],t17.2)
   else if(([]:List AE)++x8).length*40≤140737488355328 then if((([]:List AE)++x8)++t17.1).length*40≤140737488355328 then if(((([]:List AE)++x8)++t17.1)++([(AE.mk (3:Int) (Vector.replicate 4 (0:Int)))]:List AE)).length*40≤140737488355328 then(CX k self102 p0 p2 j) t17.2 (((([]:List AE)++x8)++t17.1)++([(AE.mk (3:Int) (Vector.replicate 4 (0:Int)))]:List AE))
   else none
   else none
   else none
   else Gm k x7 x8
def Gh (k:Nat) (x5:Int) (x6:(List AE)):Option ((List AE)×Int):=
 some (x6,x5)
def CY (k:Nat) (self118:(ByteArray→Int→Int→Option ((List AE)×Int))) (p0:ByteArray) (p2:Int):Nat→Int→(List AE)→Option ((List AE)×Int)
 | 0,_,_=>none
 | j+1,x7,x8=>
   Option.bind (α:=Bool) (if x8≠[]then if x7<(p0.size:Int)then if 0≤x7∧x7<(p0.size:Int)then(F2 k (ByteArray.mk #[124,41]) (AF p0 x7)).bind fun t16=>
   some (!t16)
   else none
   else some (false)
   else some (false)) fun b11=>
   if b11=true then(self118 p0 x7 p2).bind fun t18=>
   if t18.1=[]then some ([],t18.2)
   else if(([]:List AE)++x8).length*40≤140737488355328 then if((([]:List AE)++x8)++t18.1).length*40≤140737488355328 then if(((([]:List AE)++x8)++t18.1)++([(AE.mk (2:Int) (Vector.replicate 4 (0:Int)))]:List AE)).length*40≤140737488355328 then(CY k self118 p0 p2 j) t18.2 (((([]:List AE)++x8)++t18.1)++([(AE.mk (2:Int) (Vector.replicate 4 (0:Int)))]:List AE))
   else none
   else none
   else none
   else Gh k x7 x8
def JB (k:Nat) (x5:Int) (x6:(List AE)):Option ((List AE)×Int):=
 some (x6,x5)
def E1 (k:Nat) (rec9:(Int→(List AE)→Option ((List AE)×Int))) (x7:Int) (x8:(List AE)) (x19:Int):Option ((List AE)×Int):=
 if(([]:List AE)++x8).length*40≤140737488355328 then if((([]:List AE)++x8)++([(AE.mk x19 (Vector.replicate 4 (0:Int)))]:List AE)).length*40≤140737488355328 then rec9 (AH (x7+(1:Int))) ((([]:List AE)++x8)++([(AE.mk x19 (Vector.replicate 4 (0:Int)))]:List AE))
 else none
 else none
def D9 (k:Nat) (rec9:(Int→(List AE)→Option ((List AE)×Int))) (p0:ByteArray) (x7:Int) (x8:(List AE)) (x18:Int):Option ((List AE)×Int):=
 if 0≤x7∧x7<(p0.size:Int)then if(AF p0 x7)=(63:Int)then E1 k rec9 x7 x8 (6:Int)
 else E1 k rec9 x7 x8 x18
 else none
def Bw (k:Nat) (p0:ByteArray):Nat→Int→(List AE)→Option ((List AE)×Int)
 | 0,_,_=>none
 | j+1,x7,x8=>
   Option.bind (α:=Bool) (if x8≠[]then if x7<(p0.size:Int)then if 0≤x7∧x7<(p0.size:Int)then(F2 k (ByteArray.mk #[42,43,63]) (AF p0 x7)).bind fun t16=>
   some (t16)
   else none
   else some (false)
   else some (false)) fun b11=>
   if b11=true then if 0≤x7∧x7<(p0.size:Int)then if(AF p0 x7)=(43:Int)then D9 k (Bw k p0 j) p0 x7 x8 (5:Int)
   else D9 k (Bw k p0 j) p0 x7 x8 (4:Int)
   else none
   else JB k x7 x8
mutual
def DK (k:Nat):Nat→ByteArray→Int→Int→Option ((List AE)×Int)
 | 0,_,_,_=>none
 | j+1,p0,p1,p2=>
   ((DE k j) p0 p1 p2).bind fun t4=>
   CX k (DE k j) p0 p2 k t4.2 t4.1
def DE (k:Nat):Nat→ByteArray→Int→Int→Option ((List AE)×Int)
 | 0,_,_,_=>none
 | j+1,p0,p1,p2=>
   ((C8 k j) p0 p1 p2).bind fun t4=>
   CY k (C8 k j) p0 p2 k t4.2 t4.1
def C8 (k:Nat):Nat→ByteArray→Int→Int→Option ((List AE)×Int)
 | 0,_,_,_=>none
 | j+1,p0,p1,p2=>
   ((Dn k j) p0 p1 p2).bind fun t4=>
   Bw k p0 k t4.2 t4.1
def Dn (k:Nat):Nat→ByteArray→Int→Int→Option ((List AE)×Int)
 | 0,_,_,_=>none
 | j+1,p0,p1,p2=>
   Option.bind (α:=Bool) (if(p0.size:Int)≤p1 then some (true)
   else if 0≤p1∧p1<(p0.size:Int)then(F2 k (ByteArray.mk #[124,41,42,43,63,93,47,34]) (AF p0 p1)).bind fun t8=>
   some (t8)
   else none) fun b4=>
   if b4=true then some ([],p1)
   else if 0≤p1∧p1<(p0.size:Int)then if(AF p0 p1)=(46:Int)then(K9 k (3:Int) (Vector.replicate 4 (0:Int)) (Vector.replicate 4 (0:Int))).bind fun t12=>
   some ([(AE.mk (1:Int) t12)],(AH (p1+(1:Int))))
   else if 0≤p1∧p1<(p0.size:Int)then if(AF p0 p1)=(126:Int)then some ([(AE.mk (0:Int) (Vector.replicate 4 (0:Int)))],(AH (p1+(1:Int))))
   else if 0≤p1∧p1<(p0.size:Int)then if(AF p0 p1)=(91:Int)then(NA k p0 (AH (p1+(1:Int)))).bind fun t19=>
   some (t19.1,t19.2)
   else if 0≤p1∧p1<(p0.size:Int)then if(AF p0 p1)=(40:Int)then if(99:Int)≤p2 then some ([],p1)
   else((DK k j) p0 (AH (p1+(1:Int))) (AH (p2+(1:Int)))).bind fun t23=>
   Option.bind (α:=Bool) (if t23.1=[]then some (true)
   else if(p0.size:Int)≤t23.2 then some (true)
   else if 0≤t23.2∧t23.2<(p0.size:Int)then some (decide ((AF p0 t23.2)≠(41:Int)))
   else none) fun b24=>
   if b24=true then some ([],t23.2)
   else some (t23.1,(AH (t23.2+(1:Int))))
   else if 0≤p1∧p1≤(p0.size:Int)∧(p0.size:Int)≤(p0.size:Int)then(Jk k (p0.extract p1.toNat (p0.size:Int).toNat)).bind fun t31=>
   if(!t31.2.2)=true then some ([],p1)
   else if 0≤(256:Int)∧(256:Int)*(1:Int)≤140737488355328∧(256:Int)≤9223372036854775807 then if 0≤t31.1∧t31.1<((List.replicate (256:Int).toNat false).length:Int)then(J8 k (Ac (List.replicate (256:Int).toNat false) t31.1 true)).bind fun t36=>
   some ([(AE.mk (1:Int) t36)],(AH (p1+t31.2.1)))
   else none
   else none
   else none
   else none
   else none
   else none
   else none
end
def PY (k:Nat) (p0:ByteArray) (p1:Int) (p2:Int):Option ((List AE)×Int):=DK k k p0 p1 p2
theorem OW (k:Nat):∀ j:Nat,(∀ (p0:ByteArray) (p1:Int) (p2:Int) (r:((List AE)×Int)),DK k j p0 p1 p2=some r→AM Tryz.prog 77 [(AI p0),(AA p1),(AA p2)] (.tup [(nz 5 (r.1.map AJ)),(AA r.2)]))∧(∀ (p0:ByteArray) (p1:Int) (p2:Int) (r:((List AE)×Int)),DE k j p0 p1 p2=some r→AM Tryz.prog 102 [(AI p0),(AA p1),(AA p2)] (.tup [(nz 5 (r.1.map AJ)),(AA r.2)]))∧(∀ (p0:ByteArray) (p1:Int) (p2:Int) (r:((List AE)×Int)),C8 k j p0 p1 p2=some r→AM Tryz.prog 118 [(AI p0),(AA p1),(AA p2)] (.tup [(nz 5 (r.1.map AJ)),(AA r.2)]))∧(∀ (p0:ByteArray) (p1:Int) (p2:Int) (r:((List AE)×Int)),Dn k j p0 p1 p2=some r→AM Tryz.prog 124 [(AI p0),(AA p1),(AA p2)] (.tup [(nz 5 (r.1.map AJ)),(AA r.2)])):=by
 intro j
 induction j with
 | zero=>exact⟨(by intro p0 p1 p2 r h;rw[DK.eq_1]at h;cases h),(by intro p0 p1 p2 r h;rw[DE.eq_1]at h;cases h),(by intro p0 p1 p2 r h;rw[C8.eq_1]at h;cases h),(by intro p0 p1 p2 r h;rw[Dn.eq_1]at h;cases h)⟩
 | succ j hself=>
 obtain⟨hself77,hself102,hself118,hself124⟩:=hself;refine⟨?_,?_,?_,?_⟩
 ·intro p0 p1 p2 r h;rw[DK.eq_2]at h;generalize hsself77:DK k j=self77 at h hself77;generalize hsself102:DE k j=self102 at h hself102;generalize hsself118:C8 k j=self118 at h hself118;generalize hsself124:Dn k j=self124 at h hself124;refine AM.intro (res:=[.tmp 6,.tmp 7]) Tryz.func77 rfl rfl rfl (Nat.le_of_ble_eq_true rfl) ?_;refine .a 10 ?_;obtain⟨t4,et4,h⟩:=ob h;refine .callS [(AI p0),(AA p1),(AA p2)] (.tup [(nz 5 (t4.1.map AJ)),(AA t4.2)]) 14 rfl (by decide) Ql rfl rfl rfl ⟨rfl,rfl,rfl,rfl,rfl,rfl,trivial⟩ (hself102 _ _ _ _ et4) ?_;refine .a 5 ?_;refine .nK [0,1,2,8] ?_;refine .seq_mid (fun ρ H=>∃ (x5:Int) (x6:(List AE)),ρ=[(1,(AA x5)),(8,(nz 5 (x6.map AJ)))]∧H=[]∧Gm k x5 x6=some r) ?_ ?_
  ·refine .a 1 ?_;refine .wK [0,1,2,8] ?_;refine .loop (fun kq ρ H=>∃ (x7:Int) (x8:(List AE)),ρ=[(0,(AI p0)),(1,(AA x7)),(2,(AA p2)),(8,(nz 5 (x8.map AJ)))]∧H=[]∧CX k self102 p0 p2 kq x7 x8=some r) k ⟨t4.2,t4.1,rfl,rfl,h⟩ ?_;rintro kq10 _ _ ⟨x7,x8,rfl,rfl,h⟩
   cases kq10 with
   | zero=>rw[CX.eq_1]at h;cases h
   | succ kq10=>
   rw[CX.eq_2]at h;generalize hrec9:CX k self102 p0 p2 kq10=rec9 at h;refine .a 2 ?_;obtain⟨b11,q12,h⟩:=ob h;refine .regM [(0,(AI p0)),(1,(AA x7)),(2,(AA p2)),(8,(nz 5 (x8.map AJ))),(30,(AB b11))] [] ?_ ?_
   ·refine .a 1 ?_;refine .c (x:=AB (decide (x8≠[]))) (.nzN rfl rfl Tryz.underlying75) ?_;refine .a 1 ?_;rcases oi q12 with⟨c13,q12⟩|⟨c13,q12⟩
    ·refine .a 6 ?_;rcases oi q12 with⟨c14,q12⟩|⟨c14,q12⟩
     ·refine .a 2 ?_;obtain⟨g15,q12⟩:=AD q12;refine .a 3 ?_;cases q12;refine .nilE ⟨rfl,rfl⟩ ?_ ?_
      ·exact⟨rfl,rfl,rfl,rfl,rfl,trivial⟩
      exact(.refl _)
     refine .a 5 ?_;cases q12;refine .nilE ⟨rfl,rfl⟩ ?_ ?_
     ·exact⟨rfl,rfl,rfl,rfl,rfl,trivial⟩
     exact(.refl _)
    refine .a 11 ?_;cases q12;refine .nilE ⟨rfl,rfl⟩ ?_ ?_
    ·exact⟨rfl,rfl,rfl,rfl,rfl,trivial⟩
    exact(.refl _)
   rcases oi h with⟨c16,h⟩|⟨c16,h⟩
   ·refine .a 13 ?_;obtain⟨t17,et17,h⟩:=ob h;refine .callS [(AI p0),(AA (AH (x7+(1:Int)))),(AA p2)] (.tup [(nz 5 (t17.1.map AJ)),(AA t17.2)]) 36 rfl (by decide) Ql rfl rfl rfl ⟨rfl,rfl,rfl,rfl,rfl,rfl,trivial⟩ (hself102 _ _ _ _ et17) ?_;refine .a 10 ?_;refine .c (x:=AB (decide (t17.1=[]))) (.nzE rfl rfl Tryz.underlying75) ?_;refine .a 1 ?_;rcases oi h with⟨c18,h⟩|⟨c18,h⟩
    ·refine .a 6 ?_;refine .nK [6,7] ?_;refine .coe 6 (y':=(FO ([]:List AE))) rfl (fun _ _ h=>h) ?_;refine .rK [6,7] ?_;cases h;exact⟨[(FO ([]:List AE)),(AA t17.2)],⟨rfl,Ap,rfl,rfl,trivial⟩,rfl⟩
    refine .a 3 ?_;refine .lit (Z:=(Ff (0:Int) ((Vector.replicate 4 (0:Int)).toList.map AL))) (xs:=(([]:List AE).map AJ)) (qs:=[]) rfl 42 rfl (by decide) rfl trivial Tryz.underlying75 BC Aw Au rfl (by decide) (Aj (z:=5) [] rfl trivial) rfl fun n19=>?_;refine .a 1 ?_;obtain⟨g21,h⟩:=AD h;refine .coe 43 (y':=(.fz 5 (x8.map AJ))) rfl IW ?_;refine .appendL (l:=([]:List AE)) (m:=x8) 0 44 rfl (by decide) rfl rfl rfl rfl rfl EJ.fz Tryz.underlying75 Tryz.underlying75 BC FG Aw rfl g21 (by decide) fun n20=>?_;refine .a 1 ?_;obtain⟨g23,h⟩:=AD h;refine .coe 45 (y':=(BK t17.1)) rfl IW ?_;refine .appendL (l:=(([]:List AE)++x8)) (m:=t17.1) 0 46 rfl (by decide) rfl rfl rfl rfl rfl EJ.fz Tryz.underlying75 Tryz.underlying75 BC FG Aw rfl g23 (by decide) fun n22=>?_;refine .c (x:=(Ff (3:Int) ((Vector.replicate 4 (0:Int)).toList.map AL))) (.build (qs:=[(0,(AA (3:Int)))]) rfl ⟨rfl,rfl,rfl,trivial⟩ Tryz.underlying122 rfl Aw Au (.cons rfl rfl rfl rfl (.cast (.fld0 .here) rfl) .nil) rfl) ?_;refine .lit (Z:=(Ff (0:Int) ((Vector.replicate 4 (0:Int)).toList.map AL))) (xs:=(([(AE.mk (3:Int) (Vector.replicate 4 (0:Int)))]:List AE).map AJ)) (qs:=[(0,(AJ (AE.mk (3:Int) (Vector.replicate 4 (0:Int)))))]) rfl 48 rfl (by decide) rfl ⟨rfl,rfl,rfl,trivial⟩ Tryz.underlying75 BC Aw Au rfl (by decide) (Aj (z:=5) [(AJ (AE.mk (3:Int) (Vector.replicate 4 (0:Int))))] rfl ⟨⟨rfl,rfl⟩,trivial⟩) rfl fun n24=>?_;obtain⟨g26,h⟩:=AD h
    refine .appendL (l:=((([]:List AE)++x8)++t17.1)) (m:=([(AE.mk (3:Int) (Vector.replicate 4 (0:Int)))]:List AE)) 1 49 rfl (by decide) rfl rfl rfl rfl rfl (EJ.ownL (f:=AJ) (l:=([(AE.mk (3:Int) (Vector.replicate 4 (0:Int)))]:List AE)) 0 rfl) Tryz.underlying75 Tryz.underlying75 BC FG Aw rfl g26 (by decide) fun n25=>?_;refine .a 1 ?_;refine .freezeS 1 [(8,(BK (((([]:List AE)++x8)++t17.1)++([(AE.mk (3:Int) (Vector.replicate 4 (0:Int)))]:List AE)))),(49,(BK (((([]:List AE)++x8)++t17.1)++([(AE.mk (3:Int) (Vector.replicate 4 (0:Int)))]:List AE))))] rfl ⟨Ad rfl,Ad rfl,trivial⟩ ?_;refine .coe 8 (y':=(FO (((([]:List AE)++x8)++t17.1)++([(AE.mk (3:Int) (Vector.replicate 4 (0:Int)))]:List AE)))) rfl (Hb (by simp)) ?_;refine .nS [0,1,2,8] [] ?_;exact⟨kq10,Nat.lt_succ_self _,t17.2,(((([]:List AE)++x8)++t17.1)++([(AE.mk (3:Int) (Vector.replicate 4 (0:Int)))]:List AE)),rfl,rfl,by rw[hrec9];exact h⟩
   refine .a 1 ?_;refine .eK [1,8] ?_;exact⟨x7,x8,rfl,rfl,h⟩
  rintro _ _ ⟨x5,x6,rfl,rfl,h⟩;rw[Gm.eq_1]at h;refine .a 6 ?_;refine .nK [6,7] ?_;refine .rK [6,7] ?_;have hr:=Option.some.inj h;subst hr;exact⟨[(nz 5 (x6.map AJ)),(AA x5)],⟨rfl,Ap,rfl,rfl,trivial⟩,rfl⟩
 ·intro p0 p1 p2 r h;rw[DE.eq_2]at h;generalize hsself77:DK k j=self77 at h hself77;generalize hsself102:DE k j=self102 at h hself102;generalize hsself118:C8 k j=self118 at h hself118;generalize hsself124:Dn k j=self124 at h hself124;refine AM.intro (res:=[.tmp 6,.tmp 7]) Tryz.func102 rfl rfl rfl (Nat.le_of_ble_eq_true rfl) ?_;refine .a 10 ?_;obtain⟨t4,et4,h⟩:=ob h;refine .callS [(AI p0),(AA p1),(AA p2)] (.tup [(nz 5 (t4.1.map AJ)),(AA t4.2)]) 14 rfl (by decide) Q8 rfl rfl rfl ⟨rfl,rfl,rfl,rfl,rfl,rfl,trivial⟩ (hself118 _ _ _ _ et4) ?_;refine .a 5 ?_;refine .nK [0,1,2,8] ?_;refine .seq_mid (fun ρ H=>∃ (x5:Int) (x6:(List AE)),ρ=[(1,(AA x5)),(8,(nz 5 (x6.map AJ)))]∧H=[]∧Gh k x5 x6=some r) ?_ ?_
  ·refine .a 1 ?_;refine .wK [0,1,2,8] ?_;refine .loop (fun kq ρ H=>∃ (x7:Int) (x8:(List AE)),ρ=[(0,(AI p0)),(1,(AA x7)),(2,(AA p2)),(8,(nz 5 (x8.map AJ)))]∧H=[]∧CY k self118 p0 p2 kq x7 x8=some r) k ⟨t4.2,t4.1,rfl,rfl,h⟩ ?_;rintro kq10 _ _ ⟨x7,x8,rfl,rfl,h⟩
   cases kq10 with
   | zero=>rw[CY.eq_1]at h;cases h
   | succ kq10=>
   rw[CY.eq_2]at h;generalize hrec9:CY k self118 p0 p2 kq10=rec9 at h;refine .a 2 ?_;obtain⟨b11,q12,h⟩:=ob h;refine .regM [(0,(AI p0)),(1,(AA x7)),(2,(AA p2)),(8,(nz 5 (x8.map AJ))),(31,(AB b11))] [] ?_ ?_
   ·refine .a 1 ?_;refine .c (x:=AB (decide (x8≠[]))) (.nzN rfl rfl Tryz.underlying75) ?_;refine .a 1 ?_;rcases oi q12 with⟨c13,q12⟩|⟨c13,q12⟩
    ·refine .a 6 ?_;rcases oi q12 with⟨c14,q12⟩|⟨c14,q12⟩
     ·refine .a 2 ?_;obtain⟨g15,q12⟩:=AD q12;refine .a 1 ?_;obtain⟨t16,et16,q12⟩:=ob q12;refine .callG 8 true 25 [(AI (ByteArray.mk #[124,41])),(AY (AF p0 x7))] (AB t16) 29 rfl (by decide) Ji rfl rfl (bD (decide_eq_true c14)) rfl rfl ⟨rfl,rfl,rfl,rfl,trivial⟩ (D1 et16) ?_;refine .a 2 ?_;cases q12;refine .nilE ⟨rfl,rfl⟩ ?_ ?_
      ·exact⟨rfl,rfl,rfl,rfl,rfl,trivial⟩
      exact(.refl _)
     refine .a 6 ?_;cases q12;refine .nilE ⟨rfl,rfl⟩ ?_ ?_
     ·exact⟨rfl,rfl,rfl,rfl,rfl,trivial⟩
     exact(.refl _)
    refine .a 12 ?_;cases q12;refine .nilE ⟨rfl,rfl⟩ ?_ ?_
    ·exact⟨rfl,rfl,rfl,rfl,rfl,trivial⟩
    exact(.refl _)
   rcases oi h with⟨c17,h⟩|⟨c17,h⟩
   ·refine .a 12 ?_;obtain⟨t18,et18,h⟩:=ob h;refine .callS [(AI p0),(AA x7),(AA p2)] (.tup [(nz 5 (t18.1.map AJ)),(AA t18.2)]) 36 rfl (by decide) Q8 rfl rfl rfl ⟨rfl,rfl,rfl,rfl,rfl,rfl,trivial⟩ (hself118 _ _ _ _ et18) ?_;refine .a 10 ?_;refine .c (x:=AB (decide (t18.1=[]))) (.nzE rfl rfl Tryz.underlying75) ?_;refine .a 1 ?_;rcases oi h with⟨c19,h⟩|⟨c19,h⟩
    ·refine .a 6 ?_;refine .nK [6,7] ?_;refine .coe 6 (y':=(FO ([]:List AE))) rfl (fun _ _ h=>h) ?_;refine .rK [6,7] ?_;cases h;exact⟨[(FO ([]:List AE)),(AA t18.2)],⟨rfl,Ap,rfl,rfl,trivial⟩,rfl⟩
    refine .a 3 ?_;refine .lit (Z:=(Ff (0:Int) ((Vector.replicate 4 (0:Int)).toList.map AL))) (xs:=(([]:List AE).map AJ)) (qs:=[]) rfl 42 rfl (by decide) rfl trivial Tryz.underlying75 BC Aw Au rfl (by decide) (Aj (z:=5) [] rfl trivial) rfl fun n20=>?_;refine .a 1 ?_;obtain⟨g22,h⟩:=AD h;refine .coe 43 (y':=(.fz 5 (x8.map AJ))) rfl IW ?_;refine .appendL (l:=([]:List AE)) (m:=x8) 0 44 rfl (by decide) rfl rfl rfl rfl rfl EJ.fz Tryz.underlying75 Tryz.underlying75 BC FG Aw rfl g22 (by decide) fun n21=>?_;refine .a 1 ?_;obtain⟨g24,h⟩:=AD h;refine .coe 45 (y':=(BK t18.1)) rfl IW ?_;refine .appendL (l:=(([]:List AE)++x8)) (m:=t18.1) 0 46 rfl (by decide) rfl rfl rfl rfl rfl EJ.fz Tryz.underlying75 Tryz.underlying75 BC FG Aw rfl g24 (by decide) fun n23=>?_;refine .c (x:=(Ff (2:Int) ((Vector.replicate 4 (0:Int)).toList.map AL))) (.build (qs:=[(0,(AA (2:Int)))]) rfl ⟨rfl,rfl,rfl,trivial⟩ Tryz.underlying122 rfl Aw Au (.cons rfl rfl rfl rfl (.cast (.fld0 .here) rfl) .nil) rfl) ?_;refine .lit (Z:=(Ff (0:Int) ((Vector.replicate 4 (0:Int)).toList.map AL))) (xs:=(([(AE.mk (2:Int) (Vector.replicate 4 (0:Int)))]:List AE).map AJ)) (qs:=[(0,(AJ (AE.mk (2:Int) (Vector.replicate 4 (0:Int)))))]) rfl 48 rfl (by decide) rfl ⟨rfl,rfl,rfl,trivial⟩ Tryz.underlying75 BC Aw Au rfl (by decide) (Aj (z:=5) [(AJ (AE.mk (2:Int) (Vector.replicate 4 (0:Int))))] rfl ⟨⟨rfl,rfl⟩,trivial⟩) rfl fun n25=>?_;obtain⟨g27,h⟩:=AD h
    refine .appendL (l:=((([]:List AE)++x8)++t18.1)) (m:=([(AE.mk (2:Int) (Vector.replicate 4 (0:Int)))]:List AE)) 1 49 rfl (by decide) rfl rfl rfl rfl rfl (EJ.ownL (f:=AJ) (l:=([(AE.mk (2:Int) (Vector.replicate 4 (0:Int)))]:List AE)) 0 rfl) Tryz.underlying75 Tryz.underlying75 BC FG Aw rfl g27 (by decide) fun n26=>?_;refine .a 1 ?_;refine .freezeS 1 [(8,(BK (((([]:List AE)++x8)++t18.1)++([(AE.mk (2:Int) (Vector.replicate 4 (0:Int)))]:List AE)))),(49,(BK (((([]:List AE)++x8)++t18.1)++([(AE.mk (2:Int) (Vector.replicate 4 (0:Int)))]:List AE))))] rfl ⟨Ad rfl,Ad rfl,trivial⟩ ?_;refine .coe 8 (y':=(FO (((([]:List AE)++x8)++t18.1)++([(AE.mk (2:Int) (Vector.replicate 4 (0:Int)))]:List AE)))) rfl (Hb (by simp)) ?_;refine .nS [0,1,2,8] [] ?_;exact⟨kq10,Nat.lt_succ_self _,t18.2,(((([]:List AE)++x8)++t18.1)++([(AE.mk (2:Int) (Vector.replicate 4 (0:Int)))]:List AE)),rfl,rfl,by rw[hrec9];exact h⟩
   refine .a 1 ?_;refine .eK [1,8] ?_;exact⟨x7,x8,rfl,rfl,h⟩
  rintro _ _ ⟨x5,x6,rfl,rfl,h⟩;rw[Gh.eq_1]at h;refine .a 6 ?_;refine .nK [6,7] ?_;refine .rK [6,7] ?_;have hr:=Option.some.inj h;subst hr;exact⟨[(nz 5 (x6.map AJ)),(AA x5)],⟨rfl,Ap,rfl,rfl,trivial⟩,rfl⟩
 ·intro p0 p1 p2 r h;rw[C8.eq_2]at h;generalize hsself77:DK k j=self77 at h hself77;generalize hsself102:DE k j=self102 at h hself102;generalize hsself118:C8 k j=self118 at h hself118;generalize hsself124:Dn k j=self124 at h hself124;refine AM.intro (res:=[.tmp 6,.tmp 7]) Tryz.func118 rfl rfl rfl (Nat.le_of_ble_eq_true rfl) ?_;refine .a 10 ?_;obtain⟨t4,et4,h⟩:=ob h;refine .callS [(AI p0),(AA p1),(AA p2)] (.tup [(nz 5 (t4.1.map AJ)),(AA t4.2)]) 14 rfl (by decide) UK rfl rfl rfl ⟨rfl,rfl,rfl,rfl,rfl,rfl,trivial⟩ (hself124 _ _ _ _ et4) ?_;refine .a 5 ?_;refine .nK [0,1,8] ?_;refine .seq_mid (fun ρ H=>∃ (x5:Int) (x6:(List AE)),ρ=[(1,(AA x5)),(8,(nz 5 (x6.map AJ)))]∧H=[]∧JB k x5 x6=some r) ?_ ?_
  ·refine .a 1 ?_;refine .wK [0,1,8] ?_;refine .loop (fun kq ρ H=>∃ (x7:Int) (x8:(List AE)),ρ=[(0,(AI p0)),(1,(AA x7)),(8,(nz 5 (x8.map AJ)))]∧H=[]∧Bw k p0 kq x7 x8=some r) k ⟨t4.2,t4.1,rfl,rfl,h⟩ ?_;rintro kq10 _ _ ⟨x7,x8,rfl,rfl,h⟩
   cases kq10 with
   | zero=>rw[Bw.eq_1]at h;cases h
   | succ kq10=>
   rw[Bw.eq_2]at h;generalize hrec9:Bw k p0 kq10=rec9 at h;refine .a 2 ?_;obtain⟨b11,q12,h⟩:=ob h;refine .regM [(0,(AI p0)),(1,(AA x7)),(8,(nz 5 (x8.map AJ))),(30,(AB b11))] [] ?_ ?_
   ·refine .a 1 ?_;refine .c (x:=AB (decide (x8≠[]))) (.nzN rfl rfl Tryz.underlying75) ?_;refine .a 1 ?_;rcases oi q12 with⟨c13,q12⟩|⟨c13,q12⟩
    ·refine .a 6 ?_;rcases oi q12 with⟨c14,q12⟩|⟨c14,q12⟩
     ·refine .a 2 ?_;obtain⟨g15,q12⟩:=AD q12;refine .a 1 ?_;obtain⟨t16,et16,q12⟩:=ob q12;refine .callG 8 true 25 [(AI (ByteArray.mk #[42,43,63])),(AY (AF p0 x7))] (AB t16) 29 rfl (by decide) Ji rfl rfl (bD (decide_eq_true c14)) rfl rfl ⟨rfl,rfl,rfl,rfl,trivial⟩ (D1 et16) ?_;refine .a 1 ?_;cases q12;refine .nilE ⟨rfl,rfl⟩ ?_ ?_
      ·exact⟨rfl,rfl,rfl,rfl,trivial⟩
      exact(.refl _)
     refine .a 5 ?_;cases q12;refine .nilE ⟨rfl,rfl⟩ ?_ ?_
     ·exact⟨rfl,rfl,rfl,rfl,trivial⟩
     exact(.refl _)
    refine .a 11 ?_;cases q12;refine .nilE ⟨rfl,rfl⟩ ?_ ?_
    ·exact⟨rfl,rfl,rfl,rfl,trivial⟩
    exact(.refl _)
   rcases oi h with⟨c17,h⟩|⟨c17,h⟩
   ·refine .a 6 ?_;refine .nK [0,1,8,9] ?_;refine .seq_mid (fun ρ H=>∃ (x18:Int),ρ=[(0,(AI p0)),(1,(AA x7)),(8,(nz 5 (x8.map AJ))),(9,(AA x18))]∧H=[]∧D9 k rec9 p0 x7 x8 x18=some r) ?_ ?_
    ·refine .a 4 ?_;obtain⟨g28,h⟩:=AD h;refine .a 3 ?_;rcases oi h with⟨c29,h⟩|⟨c29,h⟩
     ·refine .a 3 ?_;refine .nK [0,1,8,9] ?_;exact⟨(5:Int),rfl,rfl,h⟩
     refine .a 1 ?_;refine .sK [0,1,8,9] ?_;exact⟨(4:Int),rfl,rfl,h⟩
    rintro _ _ ⟨x18,rfl,rfl,h⟩;rw[D9.eq_1]at h;refine .seq_mid (fun ρ H=>∃ (x19:Int),ρ=[(0,(AI p0)),(1,(AA x7)),(8,(nz 5 (x8.map AJ))),(9,(AA x19))]∧H=[]∧E1 k rec9 x7 x8 x19=some r) ?_ ?_
    ·refine .a 4 ?_;obtain⟨g26,h⟩:=AD h;refine .a 3 ?_;rcases oi h with⟨c27,h⟩|⟨c27,h⟩
     ·refine .a 3 ?_;refine .nK [0,1,8,9] ?_;exact⟨(6:Int),rfl,rfl,h⟩
     refine .a 1 ?_;refine .sK [0,1,8,9] ?_;exact⟨x18,rfl,rfl,h⟩
    rintro _ _ ⟨x19,rfl,rfl,h⟩;rw[E1.eq_1]at h;refine .sr ?_;refine .lit (Z:=(Ff (0:Int) ((Vector.replicate 4 (0:Int)).toList.map AL))) (xs:=(([]:List AE).map AJ)) (qs:=[]) rfl 39 rfl (by decide) rfl trivial Tryz.underlying75 BC Aw Au rfl (by decide) (Aj (z:=5) [] rfl trivial) rfl fun n20=>?_;refine .a 1 ?_;obtain⟨g22,h⟩:=AD h;refine .coe 40 (y':=(.fz 5 (x8.map AJ))) rfl IW ?_;refine .appendL (l:=([]:List AE)) (m:=x8) 0 41 rfl (by decide) rfl rfl rfl rfl rfl EJ.fz Tryz.underlying75 Tryz.underlying75 BC FG Aw rfl g22 (by decide) fun n21=>?_;refine .a 1 ?_;refine .c (x:=(Ff x19 ((Vector.replicate 4 (0:Int)).toList.map AL))) (.build (qs:=[(0,(AA x19))]) rfl ⟨rfl,rfl,rfl,trivial⟩ Tryz.underlying122 rfl Aw Au (.cons rfl rfl rfl rfl (.cast (.fld0 .here) rfl) .nil) rfl) ?_;refine .lit (Z:=(Ff (0:Int) ((Vector.replicate 4 (0:Int)).toList.map AL))) (xs:=(([(AE.mk x19 (Vector.replicate 4 (0:Int)))]:List AE).map AJ)) (qs:=[(0,(AJ (AE.mk x19 (Vector.replicate 4 (0:Int)))))]) rfl 44 rfl (by decide) rfl ⟨rfl,rfl,rfl,trivial⟩ Tryz.underlying75 BC Aw Au rfl (by decide) (Aj (z:=5) [(AJ (AE.mk x19 (Vector.replicate 4 (0:Int))))] rfl ⟨⟨rfl,rfl⟩,trivial⟩) rfl fun n23=>?_;obtain⟨g25,h⟩:=AD h;refine .appendL (l:=(([]:List AE)++x8)) (m:=([(AE.mk x19 (Vector.replicate 4 (0:Int)))]:List AE)) 1 45 rfl (by decide) rfl rfl rfl rfl rfl (EJ.ownL (f:=AJ) (l:=([(AE.mk x19 (Vector.replicate 4 (0:Int)))]:List AE)) 0 rfl) Tryz.underlying75 Tryz.underlying75 BC FG Aw rfl g25 (by decide) fun n24=>?_
    refine .a 1 ?_;refine .nS [0,1,8] [1] ?_;refine .a 4 ?_;refine .freezeS 0 [(8,(BK ((([]:List AE)++x8)++([(AE.mk x19 (Vector.replicate 4 (0:Int)))]:List AE))))] rfl ⟨Ad rfl,trivial⟩ ?_;refine .coe 8 (y':=(FO ((([]:List AE)++x8)++([(AE.mk x19 (Vector.replicate 4 (0:Int)))]:List AE)))) rfl (Hb (by simp)) ?_;refine .nK [0,1,8] ?_;exact⟨kq10,Nat.lt_succ_self _,(AH (x7+(1:Int))),((([]:List AE)++x8)++([(AE.mk x19 (Vector.replicate 4 (0:Int)))]:List AE)),rfl,rfl,by rw[hrec9];exact h⟩
   refine .a 1 ?_;refine .eK [1,8] ?_;exact⟨x7,x8,rfl,rfl,h⟩
  rintro _ _ ⟨x5,x6,rfl,rfl,h⟩;rw[JB.eq_1]at h;refine .a 6 ?_;refine .nK [6,7] ?_;refine .rK [6,7] ?_;have hr:=Option.some.inj h;subst hr;exact⟨[(nz 5 (x6.map AJ)),(AA x5)],⟨rfl,Ap,rfl,rfl,trivial⟩,rfl⟩
 intro p0 p1 p2 r h;rw[Dn.eq_2]at h;generalize hsself77:DK k j=self77 at h hself77;generalize hsself102:DE k j=self102 at h hself102;generalize hsself118:C8 k j=self118 at h hself118;generalize hsself124:Dn k j=self124 at h hself124;refine AM.intro (res:=[.tmp 6,.tmp 7]) Tryz.func124 rfl rfl rfl (Nat.le_of_ble_eq_true rfl) ?_;refine .a 8 ?_;obtain⟨b4,q5,h⟩:=ob h;refine .regM [(0,(AI p0)),(1,(AA p1)),(2,(AA p2)),(14,(AB b4))] [] ?_ ?_
 ·refine .a 5 ?_;rcases oi q5 with⟨c6,q5⟩|⟨c6,q5⟩
  ·refine .a 6 ?_;cases q5;refine .nilE ⟨rfl,rfl⟩ ?_ ?_
   ·exact⟨rfl,rfl,rfl,rfl,trivial⟩
   exact(.refl _)
  refine .a 2 ?_;obtain⟨g7,q5⟩:=AD q5;refine .a 1 ?_;obtain⟨t8,et8,q5⟩:=ob q5;refine .callG 4 false 19 [(AI (ByteArray.mk #[124,41,42,43,63,93,47,34])),(AY (AF p0 p1))] (AB t8) 23 rfl (by decide) Ji rfl rfl (bD (decide_eq_false c6)) rfl rfl ⟨rfl,rfl,rfl,rfl,trivial⟩ (D1 et8) ?_;refine .a 2 ?_;cases q5;refine .nilE ⟨rfl,rfl⟩ ?_ ?_
  ·exact⟨rfl,rfl,rfl,rfl,trivial⟩
  exact(.refl _)
 rcases oi h with⟨c9,h⟩|⟨c9,h⟩
 ·refine .a 6 ?_;refine .nK [6,7] ?_;refine .coe 6 (y':=(FO ([]:List AE))) rfl (fun _ _ h=>h) ?_;refine .rK [6,7] ?_;cases h;exact⟨[(FO ([]:List AE)),(AA p1)],⟨rfl,Ap,rfl,rfl,trivial⟩,rfl⟩
 refine .a 5 ?_;obtain⟨g10,h⟩:=AD h;refine .a 4 ?_;rcases oi h with⟨c11,h⟩|⟨c11,h⟩
 ·refine .a 3 ?_;refine .c (x:=.ar 1 ((Vector.replicate 4 (0:Int)).toList.map AL)) (.buildAr (qs:=[]) rfl trivial Tryz.underlying120 BE Bq BP .nil rfl) ?_;refine .c (x:=.ar 1 ((Vector.replicate 4 (0:Int)).toList.map AL)) (.buildAr (qs:=[]) rfl trivial Tryz.underlying120 BE Bq BP .nil rfl) ?_;obtain⟨t12,et12,h⟩:=ob h;refine .callS [(AA (3:Int)),(.ar 1 ((Vector.replicate 4 (0:Int)).toList.map AL)),(.ar 1 ((Vector.replicate 4 (0:Int)).toList.map AL))] (.ar 1 (t12.toList.map AL)) 33 rfl (by decide) Qc rfl rfl rfl ⟨rfl,rfl,rfl,rfl,rfl,rfl,trivial⟩ (IP et12) ?_;refine .c (x:=(Ff (1:Int) (t12.toList.map AL))) (.build (qs:=[(0,(AA (1:Int))),(1,(.ar 1 (t12.toList.map AL)))]) rfl ⟨rfl,rfl,rfl,rfl,rfl,rfl,trivial⟩ Tryz.underlying122 rfl Aw Au (.cons rfl rfl rfl rfl (.cast (.fld0 .here) rfl) (.cons rfl rfl (Az _ _) (Az _ _) (.cast (.fldS (.fld0 .here)) rfl) .nil)) rfl) ?_;refine .lit (Z:=(Ff (0:Int) ((Vector.replicate 4 (0:Int)).toList.map AL))) (xs:=(([(AE.mk (1:Int) t12)]:List AE).map AJ)) (qs:=[(0,(AJ (AE.mk (1:Int) t12)))]) rfl 35 rfl (by decide) rfl ⟨rfl,rfl,rfl,trivial⟩ Tryz.underlying75 BC Aw Au rfl (by decide) (Aj (z:=5) [(AJ (AE.mk (1:Int) t12))] rfl ⟨⟨rfl,rfl⟩,trivial⟩) rfl fun n13=>?_;refine .a 4 ?_;refine .nK [6,7] ?_;refine .freezeS 0 [(6,(BK ([(AE.mk (1:Int) t12)]:List AE)))] rfl ⟨Ad rfl,trivial⟩ ?_;refine .coe 6 (y':=(FO ([(AE.mk (1:Int) t12)]:List AE))) rfl (Hb (by simp)) ?_;refine .rK [6,7] ?_;cases h
  exact⟨[(FO ([(AE.mk (1:Int) t12)]:List AE)),(AA (AH (p1+(1:Int))))],⟨rfl,Ap,rfl,rfl,trivial⟩,rfl⟩
 refine .a 5 ?_;obtain⟨g14,h⟩:=AD h;refine .a 4 ?_;rcases oi h with⟨c15,h⟩|⟨c15,h⟩
 ·refine .a 3 ?_;refine .c (x:=(Ff (0:Int) ((Vector.replicate 4 (0:Int)).toList.map AL))) (.build (qs:=[]) rfl trivial Tryz.underlying122 rfl Aw Au .nil rfl) ?_;refine .lit (Z:=(Ff (0:Int) ((Vector.replicate 4 (0:Int)).toList.map AL))) (xs:=(([(AE.mk (0:Int) (Vector.replicate 4 (0:Int)))]:List AE).map AJ)) (qs:=[(0,(AJ (AE.mk (0:Int) (Vector.replicate 4 (0:Int)))))]) rfl 44 rfl (by decide) rfl ⟨rfl,rfl,rfl,trivial⟩ Tryz.underlying75 BC Aw Au rfl (by decide) (Aj (z:=5) [(AJ (AE.mk (0:Int) (Vector.replicate 4 (0:Int))))] rfl ⟨⟨rfl,rfl⟩,trivial⟩) rfl fun n16=>?_;refine .a 4 ?_;refine .nK [6,7] ?_;refine .freezeS 0 [(6,(BK ([(AE.mk (0:Int) (Vector.replicate 4 (0:Int)))]:List AE)))] rfl ⟨Ad rfl,trivial⟩ ?_;refine .coe 6 (y':=(FO ([(AE.mk (0:Int) (Vector.replicate 4 (0:Int)))]:List AE))) rfl (Hb (by simp)) ?_;refine .rK [6,7] ?_;cases h;exact⟨[(FO ([(AE.mk (0:Int) (Vector.replicate 4 (0:Int)))]:List AE)),(AA (AH (p1+(1:Int))))],⟨rfl,Ap,rfl,rfl,trivial⟩,rfl⟩
 refine .a 5 ?_;obtain⟨g17,h⟩:=AD h;refine .a 4 ?_;rcases oi h with⟨c18,h⟩|⟨c18,h⟩
 ·refine .a 6 ?_;obtain⟨t19,et19,h⟩:=ob h;refine .callS [(AI p0),(AA (AH (p1+(1:Int))))] (.tup [(nz 5 (t19.1.map AJ)),(AA t19.2)]) 55 rfl (by decide) Tr rfl rfl rfl ⟨rfl,rfl,rfl,rfl,trivial⟩ (Mt et19) ?_;refine .a 4 ?_;refine .nK [6,7] ?_;refine .rK [6,7] ?_;cases h;exact⟨[(nz 5 (t19.1.map AJ)),(AA t19.2)],⟨rfl,Ap,rfl,rfl,trivial⟩,rfl⟩
 refine .a 5 ?_;obtain⟨g20,h⟩:=AD h;refine .a 4 ?_;rcases oi h with⟨c21,h⟩|⟨c21,h⟩
 ·refine .a 7 ?_;rcases oi h with⟨c22,h⟩|⟨c22,h⟩
  ·refine .a 6 ?_;refine .nK [6,7] ?_;refine .coe 6 (y':=(FO ([]:List AE))) rfl (fun _ _ h=>h) ?_;refine .rK [6,7] ?_;cases h;exact⟨[(FO ([]:List AE)),(AA p1)],⟨rfl,Ap,rfl,rfl,trivial⟩,rfl⟩
  refine .a 9 ?_;obtain⟨t23,et23,h⟩:=ob h;refine .callS [(AI p0),(AA (AH (p1+(1:Int)))),(AA (AH (p2+(1:Int))))] (.tup [(nz 5 (t23.1.map AJ)),(AA t23.2)]) 72 rfl (by decide) UB rfl rfl rfl ⟨rfl,rfl,rfl,rfl,rfl,rfl,trivial⟩ (hself77 _ _ _ _ et23) ?_;refine .a 8 ?_;obtain⟨b24,q25,h⟩:=ob h;refine .regM [(8,(nz 5 (t23.1.map AJ))),(9,(AA t23.2)),(88,(AB b24))] [] ?_ ?_
  ·refine .a 1 ?_;refine .c (x:=AB (decide (t23.1=[]))) (.nzE rfl rfl Tryz.underlying75) ?_;refine .a 1 ?_;rcases oi q25 with⟨c26,q25⟩|⟨c26,q25⟩
   ·refine .a 11 ?_;cases q25;refine .nilE ⟨rfl,rfl⟩ ?_ ?_
    ·exact⟨rfl,rfl,rfl,trivial⟩
    exact(.refl _)
   refine .a 6 ?_;rcases oi q25 with⟨c27,q25⟩|⟨c27,q25⟩
   ·refine .a 5 ?_;cases q25;refine .nilE ⟨rfl,rfl⟩ ?_ ?_
    ·exact⟨rfl,rfl,rfl,trivial⟩
    exact(.refl _)
   refine .a 2 ?_;obtain⟨g28,q25⟩:=AD q25;refine .a 3 ?_;cases q25;refine .nilE ⟨rfl,rfl⟩ ?_ ?_
   ·exact⟨rfl,rfl,rfl,trivial⟩
   exact(.refl _)
  rcases oi h with⟨c29,h⟩|⟨c29,h⟩
  ·refine .a 6 ?_;refine .nK [6,7] ?_;refine .coe 6 (y':=(FO ([]:List AE))) rfl (fun _ _ h=>h) ?_;refine .rK [6,7] ?_;cases h;exact⟨[(FO ([]:List AE)),(AA t23.2)],⟨rfl,Ap,rfl,rfl,trivial⟩,rfl⟩
  refine .a 9 ?_;refine .nK [6,7] ?_;refine .rK [6,7] ?_;cases h;exact⟨[(nz 5 (t23.1.map AJ)),(AA (AH (t23.2+(1:Int))))],⟨rfl,Ap,rfl,rfl,trivial⟩,rfl⟩
 refine .a 6 ?_;obtain⟨g30,h⟩:=AD h;refine .c (x:=AI (p0.extract p1.toNat (p0.size:Int).toNat)) (.sliceS rfl rfl rfl rfl g30 Tryz.underlying9) ?_;obtain⟨t31,et31,h⟩:=ob h;refine .callS [(AI (p0.extract p1.toNat (p0.size:Int).toNat))] (.tup [(AY t31.1),(AA t31.2.1),(AB t31.2.2)]) 97 rfl (by decide) ON rfl rfl rfl ⟨rfl,rfl,trivial⟩ (GF et31) ?_;refine .a 14 ?_;rcases oi h with⟨c32,h⟩|⟨c32,h⟩
 ·refine .a 6 ?_;refine .nK [6,7] ?_;refine .coe 6 (y':=(FO ([]:List AE))) rfl (fun _ _ h=>h) ?_;refine .rK [6,7] ?_;cases h;exact⟨[(FO ([]:List AE)),(AA p1)],⟨rfl,Ap,rfl,rfl,trivial⟩,rfl⟩
 refine .a 4 ?_;obtain⟨g34,h⟩:=AD h;refine .makeL (f:=AB) false rfl 104 rfl (by decide) rfl rfl rfl Tryz.underlying95 C1 KS GV E8 rfl g34 fun n33=>?_;refine .a 6 ?_;obtain⟨g35,h⟩:=AD h;refine .a 1 ?_;refine .store 0 rfl rfl rfl rfl rfl rfl (.cast (.lidx t31.1 true g35.1 g35.2 .here) (by omega)) rfl rfl C1 rfl ?_;refine .coe 13 (y':=(.own n33 0 (Ac (List.replicate (256:Int).toNat false) t31.1 true).length)) rfl (fun _ _ h=>Av h) ?_;refine .coe 105 (y':=(.own n33 0 (Ac (List.replicate (256:Int).toNat false) t31.1 true).length)) rfl (fun _ _ h=>Av h) ?_;refine .a 4 ?_;obtain⟨t36,et36,h⟩:=ob h;refine .freezeS 0 [(13,(KP (Ac (List.replicate (256:Int).toNat false) t31.1 true))),(108,(KP (Ac (List.replicate (256:Int).toNat false) t31.1 true)))] rfl ⟨Ad rfl,Ad rfl,trivial⟩ ?_;refine .callS [(KP (Ac (List.replicate (256:Int).toNat false) t31.1 true))] (.ar 1 (t36.toList.map AL)) 109 rfl (by decide) O9 rfl rfl rfl ⟨rfl,rfl,trivial⟩ (Fz et36) ?_;refine .c (x:=(Ff (1:Int) (t36.toList.map AL))) (.build (qs:=[(0,(AA (1:Int))),(1,(.ar 1 (t36.toList.map AL)))]) rfl ⟨rfl,rfl,rfl,rfl,rfl,rfl,trivial⟩ Tryz.underlying122 rfl Aw Au (.cons rfl rfl rfl rfl (.cast (.fld0 .here) rfl) (.cons rfl rfl (Az _ _) (Az _ _) (.cast (.fldS (.fld0 .here)) rfl) .nil)) rfl) ?_
 refine .lit (Z:=(Ff (0:Int) ((Vector.replicate 4 (0:Int)).toList.map AL))) (xs:=(([(AE.mk (1:Int) t36)]:List AE).map AJ)) (qs:=[(0,(AJ (AE.mk (1:Int) t36)))]) rfl 111 rfl (by decide) rfl ⟨rfl,rfl,rfl,trivial⟩ Tryz.underlying75 BC Aw Au rfl (by decide) (Aj (z:=5) [(AJ (AE.mk (1:Int) t36))] rfl ⟨⟨rfl,rfl⟩,trivial⟩) rfl fun n37=>?_;refine .a 5 ?_;refine .nK [6,7] ?_;refine .freezeS 0 [(6,(BK ([(AE.mk (1:Int) t36)]:List AE)))] rfl ⟨Ad rfl,trivial⟩ ?_;refine .coe 6 (y':=(FO ([(AE.mk (1:Int) t36)]:List AE))) rfl (Hb (by simp)) ?_;refine .rK [6,7] ?_;cases h;exact⟨[(FO ([(AE.mk (1:Int) t36)]:List AE)),(AA (AH (p1+t31.2.1)))],⟨rfl,Ap,rfl,rfl,trivial⟩,rfl⟩
theorem Mn {k:Nat} {p0:ByteArray} {p1:Int} {p2:Int} {r:((List AE)×Int)} (h:PY k p0 p1 p2=some r):AM Tryz.prog 77 [(AI p0),(AA p1),(AA p2)] (.tup [(nz 5 (r.1.map AJ)),(AA r.2)]):=(OW k k).1 p0 p1 p2 r h
def QZ (k:Nat) (p0:ByteArray):Option ((List AE)×Int):=
 if(1600:Int)<(p0.size:Int)then some ([],(6:Int))
 else(PY k p0 (0:Int) (0:Int)).bind fun t3=>
 Option.bind (α:=Bool) (if t3.1=[]then some (true)
 else some (decide (t3.2<(p0.size:Int)))) fun b4=>
 if b4=true then some ([],(5:Int))
 else if(400:Int)<(t3.1.length:Int)then some ([],(6:Int))
 else some (t3.1,(0:Int))
theorem PI {k:Nat} {p0:ByteArray} {r:((List AE)×Int)} (h:QZ k p0=some r):AM Tryz.prog 45 [(AI p0)] (.tup [(.fz 5 (r.1.map AJ)),(AA r.2)]):=by
 rw[QZ.eq_1]at h;refine AM.intro (res:=[.tmp 2,.tmp 3]) Tryz.func45 rfl rfl rfl (Nat.le_of_ble_eq_true rfl) ?_;refine .a 12 ?_;rcases oi h with⟨c2,h⟩|⟨c2,h⟩
 ·refine .a 5 ?_;refine .nK [2,3] ?_;refine .coeC 2 (y':=(BK ([]:List AE))) rfl EW.nil ?_;refine .rK [2,3] ?_;cases h;exact⟨[(BK ([]:List AE)),(AA (6:Int))],⟨rfl,rfl,rfl,rfl,trivial⟩,rfl⟩
 refine .a 5 ?_;obtain⟨t3,et3,h⟩:=ob h;refine .callS [(AI p0),(AA (0:Int)),(AA (0:Int))] (.tup [(nz 5 (t3.1.map AJ)),(AA t3.2)]) 11 rfl (by decide) UB rfl rfl rfl ⟨rfl,rfl,rfl,rfl,rfl,rfl,trivial⟩ (Mn et3) ?_;refine .a 8 ?_;obtain⟨b4,q5,h⟩:=ob h;refine .regM [(4,(nz 5 (t3.1.map AJ))),(21,(AB b4))] [] ?_ ?_
 ·refine .a 1 ?_;refine .c (x:=AB (decide (t3.1=[]))) (.nzE rfl rfl Tryz.underlying75) ?_;refine .a 1 ?_;rcases oi q5 with⟨c6,q5⟩|⟨c6,q5⟩
  ·refine .a 5 ?_;cases q5;refine .nilE ⟨rfl,rfl⟩ ?_ ?_
   ·exact⟨rfl,rfl,trivial⟩
   exact(.refl _)
  refine .a 5 ?_;cases q5;refine .nilE ⟨rfl,rfl⟩ ?_ ?_
  ·exact⟨rfl,rfl,trivial⟩
  exact(.refl _)
 rcases oi h with⟨c7,h⟩|⟨c7,h⟩
 ·refine .a 5 ?_;refine .nK [2,3] ?_;refine .coeC 2 (y':=(BK ([]:List AE))) rfl EW.nil ?_;refine .rK [2,3] ?_;cases h;exact⟨[(BK ([]:List AE)),(AA (5:Int))],⟨rfl,rfl,rfl,rfl,trivial⟩,rfl⟩
 refine .a 6 ?_;refine .c (x:=AA (t3.1.length:Int)) (.lenNz rfl rfl Tryz.underlying75) ?_;refine .a 2 ?_;rcases oi h with⟨c8,h⟩|⟨c8,h⟩
 ·refine .a 5 ?_;refine .nK [2,3] ?_;refine .coeC 2 (y':=(BK ([]:List AE))) rfl EW.nil ?_;refine .rK [2,3] ?_;cases h;exact⟨[(BK ([]:List AE)),(AA (6:Int))],⟨rfl,rfl,rfl,rfl,trivial⟩,rfl⟩
 refine .a 7 ?_;refine .nK [2,3] ?_;refine .coe 2 (y':=(.fz 5 (t3.1.map AJ))) rfl IW ?_;refine .rK [2,3] ?_;cases h;exact⟨[(.fz 5 (t3.1.map AJ)),(AA (0:Int))],⟨rfl,rfl,rfl,rfl,trivial⟩,rfl⟩
def Mp (k:Nat) (p0:Int):Option Int:=
 Option.bind (α:=Bool) (if p0<(0:Int)then some (true)
 else some (decide ((6:Int)<p0))) fun b3=>
 if b3=true then some ((-1:Int))
 else if 0≤p0∧p0<(([(0:Int),(0:Int),(2:Int),(2:Int),(1:Int),(1:Int),(1:Int)]:List Int).length:Int)then(some (AC ([(0:Int),(0:Int),(2:Int),(2:Int),(1:Int),(1:Int),(1:Int)]:List Int) p0)).bind fun x8=>
 some (x8)
 else none
theorem IZ {k:Nat} {p0:Int} {r:Int} (h:Mp k p0=some r):AM Tryz.prog 120 [(AA p0)] (AA r):=by
 rw[Mp.eq_1]at h;refine AM.intro (res:=[.tmp 2]) Tryz.func120 rfl rfl rfl (Nat.le_of_ble_eq_true rfl) ?_;refine .a 6 ?_;refine .lit (Z:=(AA (0:Int))) (xs:=(([(0:Int),(0:Int),(2:Int),(2:Int),(1:Int),(1:Int),(1:Int)]:List Int).map AA)) (qs:=[(0,(AA (0:Int))),(1,(AA (0:Int))),(2,(AA (2:Int))),(3,(AA (2:Int))),(4,(AA (1:Int))),(5,(AA (1:Int))),(6,(AA (1:Int)))]) rfl 4 rfl (by decide) rfl ⟨rfl,rfl,rfl,rfl,rfl,rfl,rfl,rfl,rfl,rfl,rfl,rfl,rfl,rfl,rfl,rfl,rfl,rfl,rfl,rfl,rfl,trivial⟩ Tryz.underlying40 DZ SP ND rfl (by decide) (Aj (z:=1) [(AA (0:Int)),(AA (0:Int)),(AA (2:Int)),(AA (2:Int)),(AA (1:Int)),(AA (1:Int)),(AA (1:Int))] rfl ⟨⟨rfl,rfl⟩,⟨rfl,rfl⟩,⟨rfl,rfl⟩,⟨rfl,rfl⟩,⟨rfl,rfl⟩,⟨rfl,rfl⟩,⟨rfl,rfl⟩,trivial⟩) rfl fun n2=>?_;refine .a 4 ?_;obtain⟨b3,q4,h⟩:=ob h;refine .regM [(0,(AA p0)),(3,(.own n2 0 ([(0:Int),(0:Int),(2:Int),(2:Int),(1:Int),(1:Int),(1:Int)]:List Int).length)),(10,(AB b3))] [(n2,(Z7 ([(0:Int),(0:Int),(2:Int),(2:Int),(1:Int),(1:Int),(1:Int)]:List Int)))] ?_ ?_
 ·refine .a 3 ?_;rcases oi q4 with⟨c5,q4⟩|⟨c5,q4⟩
  ·refine .a 3 ?_;cases q4;refine .nilE ⟨rfl,rfl⟩ ?_ ?_
   ·exact⟨rfl,rfl,rfl,trivial⟩
   exact(.refl _)
  refine .a 3 ?_;cases q4;refine .nilE ⟨rfl,rfl⟩ ?_ ?_
  ·exact⟨rfl,rfl,rfl,trivial⟩
  exact(.refl _)
 rcases oi h with⟨c6,h⟩|⟨c6,h⟩
 ·refine .a 4 ?_;refine .nS [2] [] ?_;refine .rK [2] ?_;cases h;exact⟨[(AA (-1:Int))],⟨rfl,rfl,trivial⟩,rfl⟩
 refine .a 6 ?_;obtain⟨g7,h⟩:=AD h;refine .c (.idxO 0 rfl rfl rfl rfl g7 Tryz.underlying40 DZ) ?_;refine .c (.load 0 rfl rfl rfl (.cast (.lidx p0 g7.1 g7.2 .here) (by omega)) Mx DZ) ?_;obtain⟨x8,ex8,h⟩:=ob h;refine .c (.assign rfl (congrArg (fun x=>some (AA x)) (Option.some.inj ex8))) ?_;refine .nS [2] [] ?_;refine .rK [2] ?_;have hr:=Option.some.inj h;subst hr;exact⟨[(AA x8)],⟨rfl,rfl,trivial⟩,rfl⟩
def Ib (k:Nat):Option Int:=
 some ((0:Int))
def BF (k:Nat) (p0:(List AE)):Nat→Int→Int→Option Int
 | 0,_,_=>none
 | j+1,x3,x4=>
   if(0:Int)≤x4 then if 0≤x4∧x4<(p0.length:Int)then(Mp k ((AC p0 x4).f0)).bind fun t9=>
   if(AH ((AH (x3 - (1:Int)))+t9))=(0:Int)then some (x4)
   else(BF k p0 j) (AH ((AH (x3 - (1:Int)))+t9)) (AH (x4 - (1:Int)))
   else none
   else Ib k
def P7 (k:Nat) (p0:(List AE)) (p1:Int):Option Int:=
 BF k p0 k (1:Int) p1
theorem Mf {k:Nat} {p0:(List AE)} {p1:Int} {r:Int} (h:P7 k p0 p1=some r):AM Tryz.prog 121 [(.fz 5 (p0.map AJ)),(AA p1)] (AA r):=by
 rw[P7.eq_1]at h;refine AM.intro (res:=[.tmp 4]) Tryz.func121 rfl rfl rfl (Nat.le_of_ble_eq_true rfl) ?_;refine .a 7 ?_;refine .nK [0,1,5] ?_;refine .seq_mid (fun ρ H=>ρ=[]∧H=[]∧Ib k=some r) ?_ ?_
 ·refine .a 6 ?_;refine .wK [0,5,6] ?_;refine .loop (fun kq ρ H=>∃ (x3:Int) (x4:Int),ρ=[(0,(.fz 5 (p0.map AJ))),(5,(AA x3)),(6,(AA x4))]∧H=[]∧BF k p0 kq x3 x4=some r) k ⟨(1:Int),p1,rfl,rfl,h⟩ ?_;rintro kq6 _ _ ⟨x3,x4,rfl,rfl,h⟩
  cases kq6 with
  | zero=>rw[BF.eq_1]at h;cases h
  | succ kq6=>
  rw[BF.eq_2]at h;generalize hrec5:BF k p0 kq6=rec5 at h;refine .a 6 ?_;rcases oi h with⟨c7,h⟩|⟨c7,h⟩
  ·refine .a 10 ?_;obtain⟨g8,h⟩:=AD h;refine .a 1 ?_;refine .c (.fldRp rfl rfl Tryz.underlying122 rfl DZ (.cast (.fld0 .here) rfl)) ?_;refine .a 1 ?_;obtain⟨t9,et9,h⟩:=ob h;refine .callS [(AA ((AC p0 x4).f0))] (AA t9) 19 rfl (by decide) Qp rfl rfl rfl ⟨rfl,rfl,trivial⟩ (IZ et9) ?_;refine .a 8 ?_;rcases oi h with⟨c10,h⟩|⟨c10,h⟩
   ·refine .a 5 ?_;refine .nK [4] ?_;refine .rK [4] ?_;have hr:=Option.some.inj h;subst hr;exact⟨[(AA x4)],⟨rfl,rfl,trivial⟩,rfl⟩
   refine .a 6 ?_;refine .nK [0,5,6] ?_;exact⟨kq6,Nat.lt_succ_self _,(AH ((AH (x3 - (1:Int)))+t9)),(AH (x4 - (1:Int))),rfl,rfl,by rw[hrec5];exact h⟩
  refine .a 1 ?_;refine .eK [] ?_;exact⟨rfl,rfl,h⟩
 rintro _ _ ⟨rfl,rfl,h⟩;rw[Ib.eq_1]at h;refine .a 3 ?_;refine .nK [4] ?_;refine .rK [4] ?_;cases h;exact⟨[(AA (0:Int))],⟨rfl,rfl,trivial⟩,rfl⟩
def Gl (k:Nat) (x3:(List (List AE))):Option (List (List AE)):=
 some (x3)
def Bm (k:Nat) (p0:(List AE)):Nat→(List (List AE))→Int→Int→Option (List (List AE))
 | 0,_,_,_=>none
 | j+1,x7,x8,x9=>
   if(0:Int)<x9 then(P7 k p0 (AH (x8 - (1:Int)))).bind fun t13=>
   if 0≤t13∧t13≤x8∧x8≤(p0.length:Int)then if(([(Bd p0 t13 x8)]:List (List AE))++x7).length*24≤140737488355328 then(Bm k p0 j) (([(Bd p0 t13 x8)]:List (List AE))++x7) t13 (AH (x9 - (1:Int)))
   else none
   else none
   else Gl k x7
def N7 (k:Nat) (p0:(List AE)):Option (List (List AE)):=
 if 0≤(AH ((p0.length:Int) - (1:Int)))∧(AH ((p0.length:Int) - (1:Int)))<(p0.length:Int)then(Mp k ((AC p0 (AH ((p0.length:Int) - (1:Int)))).f0)).bind fun t5=>
 Bm k p0 k ([]:List (List AE)) (AH ((p0.length:Int) - (1:Int))) t5
 else none
theorem MS {k:Nat} {p0:(List AE)} {r:(List (List AE))} (h:N7 k p0=some r):AM Tryz.prog 103 [(.fz 5 (p0.map AJ))] (Vy r):=by
 rw[N7.eq_1]at h;refine AM.intro (res:=[.tmp 2]) Tryz.func103 rfl rfl rfl (Nat.le_of_ble_eq_true rfl) ?_;refine .a 19 ?_;refine .nK [0,3,4,5] ?_;refine .seq_mid (fun ρ H=>∃ (n2:Nat) (x3:(List (List AE))),ρ=[(4,(.own n2 0 x3.length))]∧H=[(n2,(.mem (.ar 1 (x3.map EZ))))]∧Gl k x3=some r) ?_ ?_
 ·refine .a 4 ?_;obtain⟨g4,h⟩:=AD h;refine .a 1 ?_;refine .c (.fldRp rfl rfl Tryz.underlying122 rfl DZ (.cast (.fld0 .here) rfl)) ?_;refine .a 1 ?_;obtain⟨t5,et5,h⟩:=ob h;refine .callS [(AA ((AC p0 (AH ((p0.length:Int) - (1:Int)))).f0))] (AA t5) 17 rfl (by decide) Qp rfl rfl rfl ⟨rfl,rfl,trivial⟩ (IZ et5) ?_;refine .a 3 ?_;refine .nilOwn 4 1 rfl fun n18=>?_;refine .wK [0,4,5,6] ?_;refine .loop (fun kq ρ H=>∃ (n6:Nat) (x7:(List (List AE))) (x8:Int) (x9:Int),ρ=[(0,(.fz 5 (p0.map AJ))),(4,(.own n6 0 x7.length)),(5,(AA x8)),(6,(AA x9))]∧H=[(n6,(.mem (.ar 1 (x7.map EZ))))]∧Bm k p0 kq x7 x8 x9=some r) k ⟨n18,([]:List (List AE)),(AH ((p0.length:Int) - (1:Int))),t5,rfl,rfl,h⟩ ?_;rintro kq11 _ _ ⟨n6,x7,x8,x9,rfl,rfl,h⟩
  cases kq11 with
  | zero=>rw[Bm.eq_1]at h;cases h
  | succ kq11=>
  rw[Bm.eq_2]at h;generalize hrec10:Bm k p0 kq11=rec10 at h;refine .a 6 ?_;rcases oi h with⟨c12,h⟩|⟨c12,h⟩
  ·refine .a 9 ?_;obtain⟨t13,et13,h⟩:=ob h;refine .callS [(.fz 5 (p0.map AJ)),(AA (AH (x8 - (1:Int))))] (AA t13) 25 rfl (by decide) UL rfl rfl rfl ⟨rfl,rfl,rfl,rfl,trivial⟩ (Mf et13) ?_;refine .a 7 ?_;obtain⟨g14,h⟩:=AD h;refine .c (x:=.fz 5 ((Bd p0 t13 x8).map AJ)) (.sliceL rfl rfl rfl rfl g14 Tryz.underlying75 BC) ?_;refine .lit (Z:=(.fl (.slice none 0 0))) (xs:=(([(Bd p0 t13 x8)]:List (List AE)).map EZ)) (qs:=[(0,(BK (Bd p0 t13 x8)))]) rfl 30 rfl (by decide) rfl ⟨rfl,rfl,rfl,trivial⟩ Tryz.underlying164 KG LH II rfl (by decide) (Aj (z:=1) [(BK (Bd p0 t13 x8))] rfl ⟨⟨rfl,rfl⟩,trivial⟩) rfl fun n15=>?_;refine .a 1 ?_;obtain⟨g17,h⟩:=AD h;refine .appendL (l:=([(Bd p0 t13 x8)]:List (List AE))) (m:=x7) 0 32 rfl (by decide) rfl rfl rfl rfl rfl (EJ.ownL (f:=EZ) (l:=x7) 1 rfl) Tryz.underlying164 Tryz.underlying164 KG VN LH rfl g17 (by decide) fun n16=>?_;refine .a 1 ?_;refine .nS [0,4,6,7] [0] ?_;refine .a 8 ?_;refine .nK [0,4,5,6] ?_;exact⟨kq11,Nat.lt_succ_self _,n16,(([(Bd p0 t13 x8)]:List (List AE))++x7),t13,(AH (x9 - (1:Int))),rfl,rfl,by rw[hrec10];exact h⟩
  refine .a 1 ?_;refine .eK [4] ?_;exact⟨n6,x7,rfl,rfl,h⟩
 rintro _ _ ⟨n2,x3,rfl,rfl,h⟩;rw[Gl.eq_1]at h;refine .a 4 ?_;refine .nK [2] ?_;refine .freezeS 0 [(2,(.fz 1 (x3.map EZ)))] rfl ⟨Ad rfl,trivial⟩ ?_;refine .rK [2] ?_;have hr:=Option.some.inj h;subst hr;exact⟨[(.fz 1 (x3.map EZ))],⟨rfl,rfl,trivial⟩,rfl⟩
def Il (k:Nat) (x4:(List Bool)):Option (List Bool):=
 some (x4)
def Fj (k:Nat) (rec8:((List Bool)→Int→Option (List Bool))) (x7:Int) (x12:(List Bool)):Option (List Bool):=
 rec8 x12 (AH (x7+(1:Int)))
def CW (k:Nat) (p0:(List Bool)) (p1:(List Bool)):Nat→(List Bool)→Int→Option (List Bool)
 | 0,_,_=>none
 | j+1,x6,x7=>
   if x7<(p0.length:Int)then if 0≤x7∧x7<(p0.length:Int)then if(AC p0 x7)=true then if(x6++([true]:List Bool)).length*1≤140737488355328 then Fj k (CW k p0 p1 j) x7 (x6++([true]:List Bool))
   else none
   else if 0≤x7∧x7<(p1.length:Int)then if(x6++([(AC p1 x7)]:List Bool)).length*1≤140737488355328 then Fj k (CW k p0 p1 j) x7 (x6++([(AC p1 x7)]:List Bool))
   else none
   else none
   else none
   else Il k x6
def Kl (k:Nat) (p0:(List Bool)) (p1:(List Bool)):Option (List Bool):=
 CW k p0 p1 k ([]:List Bool) (0:Int)
theorem GJ {k:Nat} {p0:(List Bool)} {p1:(List Bool)} {r:(List Bool)} (h:Kl k p0 p1=some r):AM Tryz.prog 105 [(.fz 1 (p0.map AB)),(.fz 1 (p1.map AB))] (IC r):=by
 rw[Kl.eq_1]at h;refine AM.intro (res:=[.tmp 4]) Tryz.func105 rfl rfl rfl (Nat.le_of_ble_eq_true rfl) ?_;refine .a 7 ?_;refine .nK [0,1,5] ?_;refine .seq_mid (fun ρ H=>∃ (n3:Nat) (x4:(List Bool)),ρ=[(5,(.own n3 0 x4.length))]∧H=[(Cy n3 x4)]∧Il k x4=some r) ?_ ?_
 ·refine .a 5 ?_;refine .nilOwn 5 1 rfl fun n22=>?_;refine .wK [0,1,5,6] ?_;refine .loop (fun kq ρ H=>∃ (n5:Nat) (x6:(List Bool)) (x7:Int),ρ=[(0,(.fz 1 (p0.map AB))),(1,(.fz 1 (p1.map AB))),(5,(.own n5 0 x6.length)),(6,(AA x7))]∧H=[(Cy n5 x6)]∧CW k p0 p1 kq x6 x7=some r) k ⟨n22,([]:List Bool),(0:Int),rfl,rfl,h⟩ ?_;rintro kq9 _ _ ⟨n5,x6,x7,rfl,rfl,h⟩
  cases kq9 with
  | zero=>rw[CW.eq_1]at h;cases h
  | succ kq9=>
  rw[CW.eq_2]at h;generalize hrec8:CW k p0 p1 kq9=rec8 at h;refine .a 8 ?_;rcases oi h with⟨c10,h⟩|⟨c10,h⟩
  ·refine .a 1 ?_;refine .sK [0,1,5,6] ?_;refine .seq_mid (fun ρ H=>∃ (n11:Nat) (x12:(List Bool)),ρ=[(0,(.fz 1 (p0.map AB))),(1,(.fz 1 (p1.map AB))),(5,(.own n11 0 x12.length)),(6,(AA x7))]∧H=[(Cy n11 x12)]∧Fj k rec8 x7 x12=some r) ?_ ?_
   ·refine .a 5 ?_;obtain⟨g13,h⟩:=AD h;refine .a 3 ?_;rcases oi h with⟨c14,h⟩|⟨c14,h⟩
    ·refine .a 5 ?_;refine .lit (Z:=(AB false)) (xs:=(([true]:List Bool).map AB)) (qs:=[(0,(AB true))]) rfl 24 rfl (by decide) rfl ⟨rfl,rfl,rfl,trivial⟩ Tryz.underlying95 C1 GV E8 rfl (by decide) (Aj (z:=1) [(AB true)] rfl ⟨⟨rfl,rfl⟩,trivial⟩) rfl fun n15=>?_;obtain⟨g17,h⟩:=AD h;refine .appendL (l:=x6) (m:=([true]:List Bool)) 1 25 rfl (by decide) rfl rfl rfl rfl rfl (EJ.ownL (f:=AB) (l:=([true]:List Bool)) 0 rfl) Tryz.underlying95 Tryz.underlying95 C1 KS GV rfl g17 (by decide) fun n16=>?_;refine .a 1 ?_;refine .nS [0,1,5,6] [1] ?_;exact⟨n16,(x6++([true]:List Bool)),rfl,rfl,h⟩
    refine .a 2 ?_;obtain⟨g18,h⟩:=AD h;refine .a 3 ?_;refine .lit (Z:=(AB false)) (xs:=(([(AC p1 x7)]:List Bool).map AB)) (qs:=[(0,(AB (AC p1 x7)))]) rfl 24 rfl (by decide) rfl ⟨rfl,rfl,rfl,trivial⟩ Tryz.underlying95 C1 GV E8 rfl (by decide) (Aj (z:=1) [(AB (AC p1 x7))] rfl ⟨⟨rfl,rfl⟩,trivial⟩) rfl fun n19=>?_;obtain⟨g21,h⟩:=AD h;refine .appendL (l:=x6) (m:=([(AC p1 x7)]:List Bool)) 1 25 rfl (by decide) rfl rfl rfl rfl rfl (EJ.ownL (f:=AB) (l:=([(AC p1 x7)]:List Bool)) 0 rfl) Tryz.underlying95 Tryz.underlying95 C1 KS GV rfl g21 (by decide) fun n20=>?_;refine .a 1 ?_;refine .nS [0,1,5,6] [1] ?_;exact⟨n20,(x6++([(AC p1 x7)]:List Bool)),rfl,rfl,h⟩
   rintro _ _ ⟨n11,x12,rfl,rfl,h⟩;rw[Fj.eq_1]at h;refine .a 4 ?_;refine .nK [0,1,5,6] ?_;exact⟨kq9,Nat.lt_succ_self _,n11,x12,(AH (x7+(1:Int))),rfl,rfl,by rw[hrec8];exact h⟩
  refine .a 1 ?_;refine .eK [5] ?_;exact⟨n5,x6,rfl,rfl,h⟩
 rintro _ _ ⟨n3,x4,rfl,rfl,h⟩;rw[Il.eq_1]at h;refine .a 4 ?_;refine .nK [4] ?_;refine .freezeS 0 [(4,(.fz 1 (x4.map AB)))] rfl ⟨Ad rfl,trivial⟩ ?_;refine .rK [4] ?_;have hr:=Option.some.inj h;subst hr;exact⟨[(.fz 1 (x4.map AB))],⟨rfl,rfl,trivial⟩,rfl⟩
end Go.Avl.TC
