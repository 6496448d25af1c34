/- Parts: TCf78, TCf46, TCf41, TCf13, TCf26, TCf57, TCf58, TCf27, TCf59, TCf28, TCf8, TCf29, TCf30, TCf60, TCf61, TCf32, TCf31, TCf34, TCf33, TCf9. -/
import Derived.Test.YtpkgpmmcbpfenaaGreatAF1
import Derived.Test.YtpkgpmmcbpfenaaGreatAF6
import Derived.Test.YtpkgpmmcbpfenaaGreatAF5
namespace Go.Avl.TC
open Go Go.RowKit Go.Proofs Go.Avl
set_option linter.unusedVariables false
set_option maxRecDepth 100000
set_option maxHeartbeats 4000000
set_option linter.unusedSimpArgs false
attribute [local irreducible] AW AO AQ AM Al AG
def Gg (k:Nat) (self106:((List AE)→ByteArray→(List Bool)→Option (List Bool))) (self78:((List AE)→ByteArray→(List Bool)→Option (List Bool))) (p0:(List AE)) (p1:ByteArray) (p2:(List Bool)) (t6:(List (List AE))):Option (List Bool):=
 if 0≤(AH ((p0.length:Int) - (1:Int)))∧(AH ((p0.length:Int) - (1:Int)))<(p0.length:Int)then if((AC p0 (AH ((p0.length:Int) - (1:Int)))).f0)=(4:Int)then if 0≤(0:Int)∧(0:Int)<(t6.length:Int)then(self106 (AC t6 (0:Int)) p1 p2).bind fun t10=>
 some (t10)
 else none
 else if 0≤(0:Int)∧(0:Int)<(t6.length:Int)then if 0≤(0:Int)∧(0:Int)<(t6.length:Int)then(self78 (AC t6 (0:Int)) p1 p2).bind fun t13=>
 (self106 (AC t6 (0:Int)) p1 t13).bind fun t14=>
 some (t14)
 else none
 else none
 else none
def JD (k:Nat) (x18:(List Bool)):Option (List Bool):=
 some (x18)
def Fg (k:Nat) (rec21:((List Bool)→Int→Option (List Bool))) (x20:Int) (x24:(List Bool)):Option (List Bool):=
 rec21 x24 (AH (x20+(1:Int)))
def CP (k:Nat) (p0:(List AE)) (p1:ByteArray) (p2:(List Bool)):Nat→(List Bool)→Int→Option (List Bool)
 | 0,_,_=>none
 | j+1,x19,x20=>
   if x20<(p1.size:Int)then if 0≤x20∧x20<(p2.length:Int)then if(AC p2 x20)=true then if 0≤(AH ((p0.length:Int) - (1:Int)))∧(AH ((p0.length:Int) - (1:Int)))<(p0.length:Int)then if 0≤x20∧x20<(p1.size:Int)then(Kx k ((AC p0 (AH ((p0.length:Int) - (1:Int)))).f1) (AH (AF p1 x20))).bind fun t29=>
   if 0≤(AH (x20+(1:Int)))∧(AH (x20+(1:Int)))<(x19.length:Int)then Fg k (CP k p0 p1 p2 j) x20 (Ac x19 (AH (x20+(1:Int))) t29)
   else none
   else none
   else none
   else if 0≤(AH (x20+(1:Int)))∧(AH (x20+(1:Int)))<(x19.length:Int)then Fg k (CP k p0 p1 p2 j) x20 (Ac x19 (AH (x20+(1:Int))) false)
   else none
   else none
   else JD k x19
def I8 (k:Nat) (x4:(List Bool)):Option (List Bool):=
 some (x4)
def Gp (k:Nat) (rec7:((List Bool)→Int→Option (List Bool))) (x6:Int) (x10:(List Bool)):Option (List Bool):=
 rec7 x10 (AH (x6+(1:Int)))
def Fp (k:Nat) (rec7:((List Bool)→Int→Option (List Bool))) (x6:Int) (t12:(List Bool)) (b13:Bool):Option (List Bool):=
 if b13=true then some (t12)
 else Gp k rec7 x6 t12
def Ct (k:Nat) (rec7:((List Bool)→Int→Option (List Bool))) (x5:(List Bool)) (x6:Int) (t12:(List Bool)):Nat→Bool→Int→Option (List Bool)
 | 0,_,_=>none
 | j+1,b15,x16=>
   if x16<(t12.length:Int)then Option.bind (α:=Bool) (if b15=true then if 0≤x16∧x16<(t12.length:Int)then if 0≤x16∧x16<(x5.length:Int)then some (((AC t12 x16)==(AC x5 x16)))
   else none
   else none
   else some (false)) fun b20=>
   (Ct k rec7 x5 x6 t12 j) b20 (AH (x16+(1:Int)))
   else Fp k rec7 x6 t12 b15
def CQ (k:Nat) (self78:((List AE)→ByteArray→(List Bool)→Option (List Bool))) (p0:(List AE)) (p1:ByteArray):Nat→(List Bool)→Int→Option (List Bool)
 | 0,_,_=>none
 | j+1,x5,x6=>
   if x6≤(p1.size:Int)then(self78 p0 p1 x5).bind fun t11=>
   (Kl k x5 t11).bind fun t12=>
   Ct k (CQ k self78 p0 p1 j) x5 x6 t12 k true (0:Int)
   else I8 k x5
mutual
def BO (k:Nat):Nat→(List AE)→ByteArray→(List Bool)→Option (List Bool)
 | 0,_,_,_=>none
 | j+1,p0,p1,p2=>
   if 0≤(p2.length:Int)∧(p2.length:Int)*(1:Int)≤140737488355328∧(p2.length:Int)≤9223372036854775807 then(N7 k p0).bind fun t6=>
   if 0≤(AH ((p0.length:Int) - (1:Int)))∧(AH ((p0.length:Int) - (1:Int)))<(p0.length:Int)then if((AC p0 (AH ((p0.length:Int) - (1:Int)))).f0)=(0:Int)then some (p2)
   else if((AC p0 (AH ((p0.length:Int) - (1:Int)))).f0)=(1:Int)then CP k p0 p1 p2 k (List.replicate (p2.length:Int).toNat false) (0:Int)
   else if((AC p0 (AH ((p0.length:Int) - (1:Int)))).f0)=(2:Int)then if 0≤(1:Int)∧(1:Int)<(t6.length:Int)then if 0≤(0:Int)∧(0:Int)<(t6.length:Int)then((BO k j) (AC t6 (0:Int)) p1 p2).bind fun t35=>
   ((BO k j) (AC t6 (1:Int)) p1 t35).bind fun t36=>
   some (t36)
   else none
   else none
   else if((AC p0 (AH ((p0.length:Int) - (1:Int)))).f0)=(3:Int)then if 0≤(0:Int)∧(0:Int)<(t6.length:Int)then((BO k j) (AC t6 (0:Int)) p1 p2).bind fun t39=>
   if 0≤(1:Int)∧(1:Int)<(t6.length:Int)then((BO k j) (AC t6 (1:Int)) p1 p2).bind fun t41=>
   (Kl k t39 t41).bind fun t42=>
   some (t42)
   else none
   else none
   else if((AC p0 (AH ((p0.length:Int) - (1:Int)))).f0)=(6:Int)then if 0≤(0:Int)∧(0:Int)<(t6.length:Int)then((BO k j) (AC t6 (0:Int)) p1 p2).bind fun t45=>
   (Kl k p2 t45).bind fun t46=>
   some (t46)
   else none
   else Gg k (Em k j) (BO k j) p0 p1 p2 t6
   else none
   else none
def Em (k:Nat):Nat→(List AE)→ByteArray→(List Bool)→Option (List Bool)
 | 0,_,_,_=>none
 | j+1,p0,p1,p2=>
   CQ k (BO k j) p0 p1 k p2 (0:Int)
end
def SD (k:Nat) (p0:(List AE)) (p1:ByteArray) (p2:(List Bool)):Option (List Bool):=BO k k p0 p1 p2
theorem OA (k:Nat):∀ j:Nat,(∀ (p0:(List AE)) (p1:ByteArray) (p2:(List Bool)) (r:(List Bool)),BO k j p0 p1 p2=some r→AM Tryz.prog 78 [(.fz 5 (p0.map AJ)),(AI p1),(.fz 1 (p2.map AB))] (IC r))∧(∀ (p0:(List AE)) (p1:ByteArray) (p2:(List Bool)) (r:(List Bool)),Em k j p0 p1 p2=some r→AM Tryz.prog 106 [(.fz 5 (p0.map AJ)),(AI p1),(.fz 1 (p2.map AB))] (IC r)):=by
 intro j
 induction j with
 | zero=>exact⟨(by intro p0 p1 p2 r h;rw[BO.eq_1]at h;cases h),(by intro p0 p1 p2 r h;rw[Em.eq_1]at h;cases h)⟩
 | succ j hself=>
 obtain⟨hself78,hself106⟩:=hself;refine⟨?_,?_⟩
 ·intro p0 p1 p2 r h;rw[BO.eq_2]at h;generalize hsself78:BO k j=self78 at h hself78;generalize hsself106:Em k j=self106 at h hself106;refine AM.intro (res:=[.tmp 6]) Tryz.func78 rfl rfl rfl (Nat.le_of_ble_eq_true rfl) ?_;refine .a 8 ?_;obtain⟨g5,h⟩:=AD h;refine .makeL (f:=AB) false rfl 12 rfl (by decide) rfl rfl rfl Tryz.underlying95 C1 KS GV E8 rfl g5 fun n4=>?_;refine .a 5 ?_;obtain⟨t6,et6,h⟩:=ob h;refine .callS [(.fz 5 (p0.map AJ))] (.fz 1 (t6.map EZ)) 14 rfl (by decide) TJ rfl rfl rfl ⟨rfl,rfl,trivial⟩ (MS et6) ?_;refine .a 1 ?_;refine .nK [0,1,2,7,8] ?_;refine .seq_mid (fun ρ H=>ρ=[(0,(.fz 5 (p0.map AJ))),(1,(AI p1)),(2,(.fz 1 (p2.map AB))),(8,(.fz 1 (t6.map EZ)))]∧H=[]∧Gg k self106 self78 p0 p1 p2 t6=some r) ?_ ?_
  ·refine .a 6 ?_;obtain⟨g15,h⟩:=AD h;refine .a 1 ?_;refine .c (.fldRp rfl rfl Tryz.underlying122 rfl DZ (.cast (.fld0 .here) rfl)) ?_;refine .a 8 ?_;rcases oi h with⟨c16,h⟩|⟨c16,h⟩
   ·refine .a 5 ?_;refine .nS [6] [] ?_;refine .rK [6] ?_;have hr:=Option.some.inj h;subst hr;exact⟨[(.fz 1 (p2.map AB))],⟨rfl,rfl,trivial⟩,rfl⟩
   refine .a 6 ?_;rcases oi h with⟨c17,h⟩|⟨c17,h⟩
   ·refine .a 1 ?_;refine .seq_mid (fun ρ H=>∃ (x18:(List Bool)),ρ=[(7,(.own n4 0 x18.length))]∧H=[(Cy n4 x18)]∧JD k x18=some r) ?_ ?_
    ·refine .a 5 ?_;refine .wK [0,1,2,7,9] ?_;refine .loop (fun kq ρ H=>∃ (x19:(List Bool)) (x20:Int),ρ=[(0,(.fz 5 (p0.map AJ))),(1,(AI p1)),(2,(.fz 1 (p2.map AB))),(7,(.own n4 0 x19.length)),(9,(AA x20))]∧H=[(Cy n4 x19)]∧CP k p0 p1 p2 kq x19 x20=some r) k ⟨(List.replicate (p2.length:Int).toNat false),(0:Int),rfl,rfl,h⟩ ?_;rintro kq22 _ _ ⟨x19,x20,rfl,rfl,h⟩
     cases kq22 with
     | zero=>rw[CP.eq_1]at h;cases h
     | succ kq22=>
     rw[CP.eq_2]at h;generalize hrec21:CP k p0 p1 p2 kq22=rec21 at h;refine .a 8 ?_;rcases oi h with⟨c23,h⟩|⟨c23,h⟩
     ·refine .a 1 ?_;refine .sK [0,1,2,7,9] ?_;refine .seq_mid (fun ρ H=>∃ (x24:(List Bool)),ρ=[(0,(.fz 5 (p0.map AJ))),(1,(AI p1)),(2,(.fz 1 (p2.map AB))),(7,(.own n4 0 x24.length)),(9,(AA x20))]∧H=[(Cy n4 x24)]∧Fg k rec21 x20 x24=some r) ?_ ?_
      ·refine .a 1 ?_;obtain⟨g25,h⟩:=AD h;rcases oi h with⟨c26,h⟩|⟨c26,h⟩
       ·obtain⟨g27,h⟩:=AD h;obtain⟨g28,h⟩:=AD h;obtain⟨t29,et29,h⟩:=ob h;obtain⟨g30,h⟩:=AD h;refine .regEff (by rfl) (by decide+kernel) (fun (σ:Nat→Nat)=>([(.own n4 0 x19.length),(AA x20),(AA (AH (x20+(1:Int)))),(.fz 1 (p2.map AB)),(AA x20),(.rp (AB (AC p2 x20))),(AB (AC p2 x20)),(AB (AC p2 x20)),(.fz 5 (p0.map AJ)),(.fz 5 (p0.map AJ)),(AA (p0.length:Int)),(AA (AH ((p0.length:Int) - (1:Int)))),(.rp (AJ (AC p0 (AH ((p0.length:Int) - (1:Int)))))),(.rp (.ar 1 (((AC p0 (AH ((p0.length:Int) - (1:Int)))).f1).toList.map AL))),(.ar 1 (((AC p0 (AH ((p0.length:Int) - (1:Int)))).f1).toList.map AL)),(AI p1),(AA x20),(AY (AF p1 x20)),(AA (AH (AF p1 x20))),(AB t29),(AB t29),(.ptr n4 ((AH (x20+(1:Int))).toNat*1+0)),(.fl undef)]:List AV)) (fun (L:Nat→Bool) (σ:Nat→Nat)=>((bif L 22 then((Cy n4 (Ac x19 (AH (x20+(1:Int))) t29))::[])else((Cy n4 x19)::[])):AN)) [(0,(.fz 5 (p0.map AJ))),(1,(AI p1)),(2,(.fz 1 (p2.map AB))),(7,(.own n4 0 x19.length)),(9,(AA x20))] ⟨rfl,rfl,rfl,rfl,rfl,trivial⟩ (fun _=>rfl) (fun σ=>(.refl _)) ⟨?_,?_,?_,?_,?_,?_,?_,?_,?_,?_,?_,?_,?_,?_,?_,?_,?_,?_,?_,?_,?_,?_,?_,trivial⟩ (fun σ=>[(0,(.fz 5 (p0.map AJ))),(1,(AI p1)),(2,(.fz 1 (p2.map AB))),(7,(.own n4 0 x19.length)),(9,(AA x20))]) (fun σ=>((Cy n4 (Ac x19 (AH (x20+(1:Int))) t29))::[])) (fun σ=>⟨rfl,rfl,rfl,rfl,rfl,trivial⟩) (fun σ=>.refl _) (fun σ=>?_)
        ·refine .calm (fun _ _=>rfl) fun L σ hc hi hd=>?_;have m22:L 22=false:=hc.neg (i:=0) (j:=22) rfl (by rfl) hi;refine .heq (H':=((Cy n4 x19)::[])) (by first|rfl|simp only[m22,cond_true,cond_false]) ?_;refine .a 1 ?_;exact .nE (d:=33) rfl ⟨⟨33,_,rfl,rfl,rfl⟩,.of_eq (by first|rfl|simp only[m22,cond_true,cond_false]) (.refl _)⟩
        ·refine .calm (fun _ _=>rfl) fun L σ hc hi hd=>?_;refine .a 1 ?_;exact .nE (d:=34) rfl ⟨⟨34,_,rfl,rfl,rfl⟩,.refl _⟩
        ·refine .calm (fun _ _=>rfl) fun L σ hc hi hd=>?_;refine .a 1 ?_;exact .nE (d:=35) rfl ⟨⟨35,_,rfl,rfl,rfl⟩,.refl _⟩
        ·refine .calm (fun _ _=>rfl) fun L σ hc hi hd=>?_;refine .a 1 ?_;exact .nE (d:=36) rfl ⟨⟨36,_,rfl,rfl,rfl⟩,.refl _⟩
        ·refine .calm (fun _ _=>rfl) fun L σ hc hi hd=>?_;refine .a 1 ?_;exact .nE (d:=37) rfl ⟨⟨37,_,rfl,rfl,rfl⟩,.refl _⟩
        ·refine .calm (fun _ _=>rfl) fun L σ hc hi hd=>?_;refine .a 1 ?_;exact .nE (d:=38) rfl ⟨⟨38,_,rfl,rfl,rfl⟩,.refl _⟩
        ·refine .calm (fun _ _=>rfl) fun L σ hc hi hd=>?_;refine .a 1 ?_;exact .nE (d:=39) rfl ⟨⟨39,_,rfl,rfl,rfl⟩,.refl _⟩
        ·refine .calm (fun _ _=>rfl) fun L σ hc hi hd=>?_;refine .a 1 ?_;exact .nE (d:=40) rfl ⟨⟨40,_,rfl,rfl,rfl⟩,.refl _⟩
        ·refine .calm (fun _ _=>rfl) fun L σ hc hi hd=>?_;refine .a 1 ?_;exact .nE (d:=41) rfl ⟨⟨41,_,rfl,rfl,rfl⟩,.refl _⟩
        ·refine .calm (fun _ _=>rfl) fun L σ hc hi hd=>?_;refine .a 1 ?_;exact .nE (d:=42) rfl ⟨⟨42,_,rfl,rfl,rfl⟩,.refl _⟩
        ·refine .calm (fun _ _=>rfl) fun L σ hc hi hd=>?_;refine .a 1 ?_;exact .nE (d:=43) rfl ⟨⟨43,_,rfl,rfl,rfl⟩,.refl _⟩
        ·refine .calm (fun _ _=>rfl) fun L σ hc hi hd=>?_;refine .a 1 ?_;exact .nE (d:=44) rfl ⟨⟨44,_,rfl,rfl,rfl⟩,.refl _⟩
        ·refine .calm (fun _ _=>rfl) fun L σ hc hi hd=>?_;refine .a 1 ?_;exact .nE (d:=45) rfl ⟨⟨45,_,rfl,rfl,rfl⟩,.refl _⟩
        ·refine .calm (fun _ _=>rfl) fun L σ hc hi hd=>?_;refine .wK [40,45] ?_;refine .cG rfl rfl (bD c26) (.fldRp rfl rfl Tryz.underlying122 rfl BX (.cast (.fldS (.fld0 .here)) rfl)) ?_;exact .nE (d:=46) rfl ⟨⟨46,_,rfl,rfl,rfl⟩,.refl _⟩
        ·refine .calm (fun _ _=>rfl) fun L σ hc hi hd=>?_;refine .a 1 ?_;exact .nE (d:=47) rfl ⟨⟨47,_,rfl,rfl,rfl⟩,.refl _⟩
        ·refine .calm (fun _ _=>rfl) fun L σ hc hi hd=>?_;refine .a 1 ?_;exact .nE (d:=48) rfl ⟨⟨48,_,rfl,rfl,rfl⟩,.refl _⟩
        ·refine .calm (fun _ _=>rfl) fun L σ hc hi hd=>?_;refine .a 1 ?_;exact .nE (d:=49) rfl ⟨⟨49,_,rfl,rfl,rfl⟩,.refl _⟩
        ·refine .calm (fun _ _=>rfl) fun L σ hc hi hd=>?_;refine .a 1 ?_;exact .nE (d:=50) rfl ⟨⟨50,_,rfl,rfl,rfl⟩,.refl _⟩
        ·refine .calm (fun _ _=>rfl) fun L σ hc hi hd=>?_;refine .a 1 ?_;exact .nE (d:=51) rfl ⟨⟨51,_,rfl,rfl,rfl⟩,.refl _⟩
        ·refine .calm (fun _ _=>rfl) fun L σ hc hi hd=>?_;refine .wK [40,47,51] ?_;refine .callG 7 true 40 [(.ar 1 (((AC p0 (AH ((p0.length:Int) - (1:Int)))).f1).toList.map AL)),(AA (AH (AF p1 x20)))] (AB t29) 52 rfl (by decide) Oj rfl rfl (bD c26) rfl rfl ⟨rfl,rfl,rfl,rfl,trivial⟩ (GO et29) ?_;exact .nE (d:=52) rfl ⟨⟨52,_,rfl,rfl,rfl⟩,.refl _⟩
        ·refine .calm (fun _ _=>rfl) fun L σ hc hi hd=>?_;refine .a 1 ?_;exact .nE (d:=53) rfl ⟨⟨53,_,rfl,rfl,rfl⟩,.refl _⟩
        ·refine .calm (fun _ _=>rfl) fun L σ hc hi hd=>?_;have m22:L 22=false:=hc.neg (i:=21) (j:=22) rfl (by rfl) hi;refine .heq (H':=((Cy n4 x19)::[])) (by first|rfl|simp only[m22,cond_true,cond_false]) ?_;refine .a 1 ?_;exact .nE (d:=54) rfl ⟨⟨54,_,rfl,rfl,rfl⟩,.of_eq (by first|rfl|simp only[m22,cond_true,cond_false]) (.refl _)⟩
        ·intro L σ hc hi hd;refine .heq (H':=((Cy n4 x19)::[])) (by first|rfl|simp only[hi,cond_true,cond_false]) ?_;refine .wK [53,54] ?_;refine .store 0 rfl rfl rfl rfl rfl rfl (.cast (.lidx (AH (x20+(1:Int))) t29 g30.1 g30.2 .here) (by omega)) rfl rfl C1 rfl ?_;have a22:A3 L 22 22=true:=rfl;exact .n0 ⟨σ,(fun _ _=>rfl),(fun d' hd'=>by cases hd'),.of_eq (B:=((Cy n4 (Ac x19 (AH (x20+(1:Int))) t29))::[])) (by simp only[a22,cond_true,cond_false]) (.refl _)⟩
        refine .coe 7 (y':=(.own n4 0 (Ac x19 (AH (x20+(1:Int))) t29).length)) rfl (fun _ _ h=>L2 (by simp[Ac,Ep]) h) ?_;refine .nK [0,1,2,7,9] ?_;exact⟨(Ac x19 (AH (x20+(1:Int))) t29),rfl,rfl,h⟩
       obtain⟨g31,h⟩:=AD h;refine .regEff (by rfl) (by decide+kernel) (fun (σ:Nat→Nat)=>([(.own n4 0 x19.length),(AA x20),(AA (AH (x20+(1:Int)))),(.fz 1 (p2.map AB)),(AA x20),(.rp (AB (AC p2 x20))),(AB (AC p2 x20)),(AB (AC p2 x20)),(.fl undef),(.fl undef),(.fl undef),(.fl undef),(.fl undef),(.fl undef),(.fl undef),(.fl undef),(.fl undef),(.fl undef),(.fl undef),(.fl undef),(AB false),(.ptr n4 ((AH (x20+(1:Int))).toNat*1+0)),(.fl undef)]:List AV)) (fun (L:Nat→Bool) (σ:Nat→Nat)=>((bif L 22 then((Cy n4 (Ac x19 (AH (x20+(1:Int))) false))::[])else((Cy n4 x19)::[])):AN)) [(0,(.fz 5 (p0.map AJ))),(1,(AI p1)),(2,(.fz 1 (p2.map AB))),(7,(.own n4 0 x19.length)),(9,(AA x20))] ⟨rfl,rfl,rfl,rfl,rfl,trivial⟩ (fun _=>rfl) (fun σ=>(.refl _)) ⟨?_,?_,?_,?_,?_,?_,?_,?_,?_,?_,?_,?_,?_,?_,?_,?_,?_,?_,?_,?_,?_,?_,?_,trivial⟩ (fun σ=>[(0,(.fz 5 (p0.map AJ))),(1,(AI p1)),(2,(.fz 1 (p2.map AB))),(7,(.own n4 0 x19.length)),(9,(AA x20))]) (fun σ=>((Cy n4 (Ac x19 (AH (x20+(1:Int))) false))::[])) (fun σ=>⟨rfl,rfl,rfl,rfl,rfl,trivial⟩) (fun σ=>.refl _) (fun σ=>?_)
       ·refine .calm (fun _ _=>rfl) fun L σ hc hi hd=>?_;have m22:L 22=false:=hc.neg (i:=0) (j:=22) rfl (by rfl) hi;refine .heq (H':=((Cy n4 x19)::[])) (by first|rfl|simp only[m22,cond_true,cond_false]) ?_;refine .a 1 ?_;exact .nE (d:=33) rfl ⟨⟨33,_,rfl,rfl,rfl⟩,.of_eq (by first|rfl|simp only[m22,cond_true,cond_false]) (.refl _)⟩
       ·refine .calm (fun _ _=>rfl) fun L σ hc hi hd=>?_;refine .a 1 ?_;exact .nE (d:=34) rfl ⟨⟨34,_,rfl,rfl,rfl⟩,.refl _⟩
       ·refine .calm (fun _ _=>rfl) fun L σ hc hi hd=>?_;refine .a 1 ?_;exact .nE (d:=35) rfl ⟨⟨35,_,rfl,rfl,rfl⟩,.refl _⟩
       ·refine .calm (fun _ _=>rfl) fun L σ hc hi hd=>?_;refine .a 1 ?_;exact .nE (d:=36) rfl ⟨⟨36,_,rfl,rfl,rfl⟩,.refl _⟩
       ·refine .calm (fun _ _=>rfl) fun L σ hc hi hd=>?_;refine .a 1 ?_;exact .nE (d:=37) rfl ⟨⟨37,_,rfl,rfl,rfl⟩,.refl _⟩
       ·refine .calm (fun _ _=>rfl) fun L σ hc hi hd=>?_;refine .a 1 ?_;exact .nE (d:=38) rfl ⟨⟨38,_,rfl,rfl,rfl⟩,.refl _⟩
       ·refine .calm (fun _ _=>rfl) fun L σ hc hi hd=>?_;refine .a 1 ?_;exact .nE (d:=39) rfl ⟨⟨39,_,rfl,rfl,rfl⟩,.refl _⟩
       ·refine .calm (fun _ _=>rfl) fun L σ hc hi hd=>?_;refine .a 1 ?_;exact .nE (d:=40) rfl ⟨⟨40,_,rfl,rfl,rfl⟩,.refl _⟩
       ·refine .calm (fun _ _=>rfl) fun L σ hc hi hd=>?_;refine .a 1 ?_;exact .nE (d:=41) rfl ⟨⟨41,_,rfl,rfl,rfl⟩,.refl _⟩
       ·refine .calm (fun _ _=>rfl) fun L σ hc hi hd=>?_;refine .a 1 ?_;exact .nE (d:=42) rfl ⟨⟨42,_,rfl,rfl,rfl⟩,.refl _⟩
       ·refine .calm (fun _ _=>rfl) fun L σ hc hi hd=>?_;refine .a 1 ?_;exact .nE (d:=43) rfl ⟨⟨43,_,rfl,rfl,rfl⟩,.refl _⟩
       ·refine .calm (fun _ _=>rfl) fun L σ hc hi hd=>?_;refine .a 1 ?_;exact .nE (d:=44) rfl ⟨⟨44,_,rfl,rfl,rfl⟩,.refl _⟩
       ·refine .calm (fun _ _=>rfl) fun L σ hc hi hd=>?_;refine .a 1 ?_;exact .nE (d:=45) rfl ⟨⟨45,_,rfl,rfl,rfl⟩,.refl _⟩
       ·refine .calm (fun _ _=>rfl) fun L σ hc hi hd=>?_;refine .a 1 ?_;exact .nE (d:=46) rfl ⟨⟨46,_,rfl,rfl,rfl⟩,.refl _⟩
       ·refine .calm (fun _ _=>rfl) fun L σ hc hi hd=>?_;refine .a 1 ?_;exact .nE (d:=47) rfl ⟨⟨47,_,rfl,rfl,rfl⟩,.refl _⟩
       ·refine .calm (fun _ _=>rfl) fun L σ hc hi hd=>?_;refine .a 1 ?_;exact .nE (d:=48) rfl ⟨⟨48,_,rfl,rfl,rfl⟩,.refl _⟩
       ·refine .calm (fun _ _=>rfl) fun L σ hc hi hd=>?_;refine .a 1 ?_;exact .nE (d:=49) rfl ⟨⟨49,_,rfl,rfl,rfl⟩,.refl _⟩
       ·refine .calm (fun _ _=>rfl) fun L σ hc hi hd=>?_;refine .a 1 ?_;exact .nE (d:=50) rfl ⟨⟨50,_,rfl,rfl,rfl⟩,.refl _⟩
       ·refine .calm (fun _ _=>rfl) fun L σ hc hi hd=>?_;refine .a 1 ?_;exact .nE (d:=51) rfl ⟨⟨51,_,rfl,rfl,rfl⟩,.refl _⟩
       ·refine .calm (fun _ _=>rfl) fun L σ hc hi hd=>?_;refine .a 1 ?_;exact .nE (d:=52) rfl ⟨⟨52,_,rfl,rfl,rfl⟩,.refl _⟩
       ·refine .calm (fun _ _=>rfl) fun L σ hc hi hd=>?_;refine .a 1 ?_;exact .nE (d:=53) rfl ⟨⟨53,_,rfl,rfl,rfl⟩,.refl _⟩
       ·refine .calm (fun _ _=>rfl) fun L σ hc hi hd=>?_;have m22:L 22=false:=hc.neg (i:=21) (j:=22) rfl (by rfl) hi;refine .heq (H':=((Cy n4 x19)::[])) (by first|rfl|simp only[m22,cond_true,cond_false]) ?_;refine .a 1 ?_;exact .nE (d:=54) rfl ⟨⟨54,_,rfl,rfl,rfl⟩,.of_eq (by first|rfl|simp only[m22,cond_true,cond_false]) (.refl _)⟩
       ·intro L σ hc hi hd;refine .heq (H':=((Cy n4 x19)::[])) (by first|rfl|simp only[hi,cond_true,cond_false]) ?_;refine .wK [53,54] ?_;refine .store 0 rfl rfl rfl rfl rfl rfl (.cast (.lidx (AH (x20+(1:Int))) false g31.1 g31.2 .here) (by omega)) rfl rfl C1 rfl ?_;have a22:A3 L 22 22=true:=rfl;exact .n0 ⟨σ,(fun _ _=>rfl),(fun d' hd'=>by cases hd'),.of_eq (B:=((Cy n4 (Ac x19 (AH (x20+(1:Int))) false))::[])) (by simp only[a22,cond_true,cond_false]) (.refl _)⟩
       refine .coe 7 (y':=(.own n4 0 (Ac x19 (AH (x20+(1:Int))) false).length)) rfl (fun _ _ h=>L2 (by simp[Ac,Ep]) h) ?_;refine .nK [0,1,2,7,9] ?_;exact⟨(Ac x19 (AH (x20+(1:Int))) false),rfl,rfl,h⟩
      rintro _ _ ⟨x24,rfl,rfl,h⟩;rw[Fg.eq_1]at h;refine .a 4 ?_;refine .nK [0,1,2,7,9] ?_;exact⟨kq22,Nat.lt_succ_self _,x24,(AH (x20+(1:Int))),rfl,rfl,by rw[hrec21];exact h⟩
     refine .a 1 ?_;refine .eK [7] ?_;exact⟨x19,rfl,rfl,h⟩
    rintro _ _ ⟨x18,rfl,rfl,h⟩;rw[JD.eq_1]at h;refine .a 4 ?_;refine .nK [6] ?_;refine .freezeS 0 [(6,(.fz 1 (x18.map AB)))] rfl ⟨Ad rfl,trivial⟩ ?_;refine .rK [6] ?_;have hr:=Option.some.inj h;subst hr;exact⟨[(.fz 1 (x18.map AB))],⟨rfl,rfl,trivial⟩,rfl⟩
   refine .a 5 ?_;refine .nS [0,1,2,8,21,56] [] ?_;rcases oi h with⟨c32,h⟩|⟨c32,h⟩
   ·refine .a 2 ?_;obtain⟨g33,h⟩:=AD h;obtain⟨g34,h⟩:=AD h;obtain⟨t35,et35,h⟩:=ob h;obtain⟨t36,et36,h⟩:=ob h;refine .regAny (by rfl) (by decide+kernel) [(.fz 1 (t6.map EZ)),(.rp (BK (AC t6 (1:Int)))),(BK (AC t6 (1:Int))),(AI p1),(.fz 1 (t6.map EZ)),(.rp (BK (AC t6 (0:Int)))),(BK (AC t6 (0:Int))),(AI p1),(.fz 1 (p2.map AB)),(.fz 1 (t35.map AB)),(.fz 1 (t36.map AB)),(.fz 1 (t36.map AB))] [(1,(AI p1)),(2,(.fz 1 (p2.map AB))),(8,(.fz 1 (t6.map EZ)))] ⟨rfl,rfl,rfl,trivial⟩ rfl ?_ [(6,(.fz 1 (t36.map AB)))] [] ⟨rfl,trivial⟩ (.refl _) ?_
    ·refine⟨?_,?_,?_,?_,?_,?_,?_,?_,?_,?_,?_,?_,trivial⟩
     ·refine .a 1 ?_;exact .q 58
     ·refine .a 1 ?_;exact .q 59
     ·refine .a 1 ?_;exact .q 60
     ·refine .a 1 ?_;exact .q 61
     ·refine .a 1 ?_;exact .q 62
     ·refine .a 1 ?_;exact .q 63
     ·refine .a 1 ?_;exact .q 64
     ·refine .a 1 ?_;exact .q 65
     ·refine .a 1 ?_;exact .q 66
     ·refine .wK [64,65,66] ?_;refine .callS [(BK (AC t6 (0:Int))),(AI p1),(.fz 1 (p2.map AB))] (.fz 1 (t35.map AB)) 67 rfl (by decide) J6 rfl rfl rfl ⟨rfl,rfl,rfl,rfl,rfl,rfl,trivial⟩ (hself78 _ _ _ _ et35) ?_;exact .q 67
     ·refine .wK [60,61,67] ?_;refine .callS [(BK (AC t6 (1:Int))),(AI p1),(.fz 1 (t35.map AB))] (.fz 1 (t36.map AB)) 68 rfl (by decide) J6 rfl rfl rfl ⟨rfl,rfl,rfl,rfl,rfl,rfl,trivial⟩ (hself78 _ _ _ _ et36) ?_;exact .q 68
     refine .a 1 ?_;exact .q 6
    refine .rK [6] ?_;have hr:=Option.some.inj h;subst hr;exact⟨[(.fz 1 (t36.map AB))],⟨rfl,rfl,trivial⟩,rfl⟩
   refine .a 6 ?_;rcases oi h with⟨c37,h⟩|⟨c37,h⟩
   ·refine .a 2 ?_;obtain⟨g38,h⟩:=AD h;obtain⟨t39,et39,h⟩:=ob h;obtain⟨g40,h⟩:=AD h;obtain⟨t41,et41,h⟩:=ob h;obtain⟨t42,et42,h⟩:=ob h;refine .regAny (by rfl) (by decide+kernel) [(.fz 1 (t6.map EZ)),(.rp (BK (AC t6 (0:Int)))),(BK (AC t6 (0:Int))),(AI p1),(.fz 1 (p2.map AB)),(.fz 1 (t39.map AB)),(.fz 1 (t6.map EZ)),(.rp (BK (AC t6 (1:Int)))),(BK (AC t6 (1:Int))),(AI p1),(.fz 1 (p2.map AB)),(.fz 1 (t41.map AB)),(.fz 1 (t42.map AB)),(.fz 1 (t42.map AB))] [(1,(AI p1)),(2,(.fz 1 (p2.map AB))),(8,(.fz 1 (t6.map EZ)))] ⟨rfl,rfl,rfl,trivial⟩ rfl ?_ [(6,(.fz 1 (t42.map AB)))] [] ⟨rfl,trivial⟩ (.refl _) ?_
    ·refine⟨?_,?_,?_,?_,?_,?_,?_,?_,?_,?_,?_,?_,?_,?_,trivial⟩
     ·refine .a 1 ?_;exact .q 71
     ·refine .a 1 ?_;exact .q 72
     ·refine .a 1 ?_;exact .q 73
     ·refine .a 1 ?_;exact .q 74
     ·refine .a 1 ?_;exact .q 75
     ·refine .wK [73,74,75] ?_;refine .callS [(BK (AC t6 (0:Int))),(AI p1),(.fz 1 (p2.map AB))] (.fz 1 (t39.map AB)) 76 rfl (by decide) J6 rfl rfl rfl ⟨rfl,rfl,rfl,rfl,rfl,rfl,trivial⟩ (hself78 _ _ _ _ et39) ?_;exact .q 76
     ·refine .a 1 ?_;exact .q 77
     ·refine .a 1 ?_;exact .q 78
     ·refine .a 1 ?_;exact .q 79
     ·refine .a 1 ?_;exact .q 80
     ·refine .a 1 ?_;exact .q 81
     ·refine .wK [79,80,81] ?_;refine .callS [(BK (AC t6 (1:Int))),(AI p1),(.fz 1 (p2.map AB))] (.fz 1 (t41.map AB)) 82 rfl (by decide) J6 rfl rfl rfl ⟨rfl,rfl,rfl,rfl,rfl,rfl,trivial⟩ (hself78 _ _ _ _ et41) ?_;exact .q 82
     ·refine .wK [76,82] ?_;refine .callS [(.fz 1 (t39.map AB)),(.fz 1 (t41.map AB))] (.fz 1 (t42.map AB)) 83 rfl (by decide) NX rfl rfl rfl ⟨rfl,rfl,rfl,rfl,trivial⟩ (GJ et42) ?_;exact .q 83
     refine .a 1 ?_;exact .q 6
    refine .rK [6] ?_;have hr:=Option.some.inj h;subst hr;exact⟨[(.fz 1 (t42.map AB))],⟨rfl,rfl,trivial⟩,rfl⟩
   refine .a 6 ?_;rcases oi h with⟨c43,h⟩|⟨c43,h⟩
   ·refine .a 5 ?_;obtain⟨g44,h⟩:=AD h;refine .a 4 ?_;obtain⟨t45,et45,h⟩:=ob h;refine .callS [(BK (AC t6 (0:Int))),(AI p1),(.fz 1 (p2.map AB))] (.fz 1 (t45.map AB)) 92 rfl (by decide) J6 rfl rfl rfl ⟨rfl,rfl,rfl,rfl,rfl,rfl,trivial⟩ (hself78 _ _ _ _ et45) ?_;obtain⟨t46,et46,h⟩:=ob h;refine .callS [(.fz 1 (p2.map AB)),(.fz 1 (t45.map AB))] (.fz 1 (t46.map AB)) 93 rfl (by decide) NX rfl rfl rfl ⟨rfl,rfl,rfl,rfl,trivial⟩ (GJ et46) ?_;refine .a 1 ?_;refine .nK [6] ?_;refine .rK [6] ?_;have hr:=Option.some.inj h;subst hr;exact⟨[(.fz 1 (t46.map AB))],⟨rfl,rfl,trivial⟩,rfl⟩
   refine .a 1 ?_;refine .sK [0,1,2,8] ?_;exact⟨rfl,rfl,h⟩
  rintro _ _ ⟨rfl,rfl,h⟩;rw[Gg.eq_1]at h;refine .a 7 ?_;obtain⟨g7,h⟩:=AD h;refine .a 1 ?_;refine .c (.fldRp rfl rfl Tryz.underlying122 rfl DZ (.cast (.fld0 .here) rfl)) ?_;refine .a 3 ?_;rcases oi h with⟨c8,h⟩|⟨c8,h⟩
  ·refine .a 4 ?_;obtain⟨g9,h⟩:=AD h;refine .a 4 ?_;obtain⟨t10,et10,h⟩:=ob h;refine .callS [(BK (AC t6 (0:Int))),(AI p1),(.fz 1 (p2.map AB))] (.fz 1 (t10.map AB)) 107 rfl (by decide) Q5 rfl rfl rfl ⟨rfl,rfl,rfl,rfl,rfl,rfl,trivial⟩ (hself106 _ _ _ _ et10) ?_;refine .a 1 ?_;refine .nK [6] ?_;refine .rK [6] ?_;have hr:=Option.some.inj h;subst hr;exact⟨[(.fz 1 (t10.map AB))],⟨rfl,rfl,trivial⟩,rfl⟩
  refine .a 3 ?_;obtain⟨g11,h⟩:=AD h;obtain⟨g12,h⟩:=AD h;obtain⟨t13,et13,h⟩:=ob h;obtain⟨t14,et14,h⟩:=ob h;refine .regAny (by rfl) (by decide+kernel) [(.fz 1 (t6.map EZ)),(.rp (BK (AC t6 (0:Int)))),(BK (AC t6 (0:Int))),(AI p1),(.fz 1 (t6.map EZ)),(.rp (BK (AC t6 (0:Int)))),(BK (AC t6 (0:Int))),(AI p1),(.fz 1 (p2.map AB)),(.fz 1 (t13.map AB)),(.fz 1 (t14.map AB)),(.fz 1 (t14.map AB))] [(1,(AI p1)),(2,(.fz 1 (p2.map AB))),(8,(.fz 1 (t6.map EZ)))] ⟨rfl,rfl,rfl,trivial⟩ rfl ?_ [(6,(.fz 1 (t14.map AB)))] [] ⟨rfl,trivial⟩ (.refl _) ?_
  ·refine⟨?_,?_,?_,?_,?_,?_,?_,?_,?_,?_,?_,?_,trivial⟩
   ·refine .a 1 ?_;exact .q 108
   ·refine .a 1 ?_;exact .q 109
   ·refine .a 1 ?_;exact .q 110
   ·refine .a 1 ?_;exact .q 111
   ·refine .a 1 ?_;exact .q 112
   ·refine .a 1 ?_;exact .q 113
   ·refine .a 1 ?_;exact .q 114
   ·refine .a 1 ?_;exact .q 115
   ·refine .a 1 ?_;exact .q 116
   ·refine .wK [114,115,116] ?_;refine .callS [(BK (AC t6 (0:Int))),(AI p1),(.fz 1 (p2.map AB))] (.fz 1 (t13.map AB)) 117 rfl (by decide) J6 rfl rfl rfl ⟨rfl,rfl,rfl,rfl,rfl,rfl,trivial⟩ (hself78 _ _ _ _ et13) ?_;exact .q 117
   ·refine .wK [110,111,117] ?_;refine .callS [(BK (AC t6 (0:Int))),(AI p1),(.fz 1 (t13.map AB))] (.fz 1 (t14.map AB)) 118 rfl (by decide) Q5 rfl rfl rfl ⟨rfl,rfl,rfl,rfl,rfl,rfl,trivial⟩ (hself106 _ _ _ _ et14) ?_;exact .q 118
   refine .a 1 ?_;exact .q 6
  refine .rK [6] ?_;have hr:=Option.some.inj h;subst hr;exact⟨[(.fz 1 (t14.map AB))],⟨rfl,rfl,trivial⟩,rfl⟩
 intro p0 p1 p2 r h;rw[Em.eq_2]at h;generalize hsself78:BO k j=self78 at h hself78;generalize hsself106:Em k j=self106 at h hself106;refine AM.intro (res:=[.tmp 6]) Tryz.func106 rfl rfl rfl (Nat.le_of_ble_eq_true rfl) ?_;refine .a 3 ?_;refine .nK [0,1,2] ?_;refine .seq_mid (fun ρ H=>∃ (x4:(List Bool)),ρ=[(2,(.fz 1 (x4.map AB)))]∧H=[]∧I8 k x4=some r) ?_ ?_
 ·refine .a 5 ?_;refine .wK [0,1,2,7] ?_;refine .loop (fun kq ρ H=>∃ (x5:(List Bool)) (x6:Int),ρ=[(0,(.fz 5 (p0.map AJ))),(1,(AI p1)),(2,(.fz 1 (x5.map AB))),(7,(AA x6))]∧H=[]∧CQ k self78 p0 p1 kq x5 x6=some r) k ⟨p2,(0:Int),rfl,rfl,h⟩ ?_;rintro kq8 _ _ ⟨x5,x6,rfl,rfl,h⟩
  cases kq8 with
  | zero=>rw[CQ.eq_1]at h;cases h
  | succ kq8=>
  rw[CQ.eq_2]at h;generalize hrec7:CQ k self78 p0 p1 kq8=rec7 at h;refine .a 8 ?_;rcases oi h with⟨c9,h⟩|⟨c9,h⟩
  ·refine .a 1 ?_;refine .sK [0,1,2,7] ?_;refine .seq_mid (fun ρ H=>∃ (x10:(List Bool)),ρ=[(0,(.fz 5 (p0.map AJ))),(1,(AI p1)),(2,(.fz 1 (x10.map AB))),(7,(AA x6))]∧H=[]∧Gp k rec7 x6 x10=some r) ?_ ?_
   ·refine .a 7 ?_;obtain⟨t11,et11,h⟩:=ob h;refine .callS [(.fz 5 (p0.map AJ)),(AI p1),(.fz 1 (x5.map AB))] (.fz 1 (t11.map AB)) 21 rfl (by decide) J6 rfl rfl rfl ⟨rfl,rfl,rfl,rfl,rfl,rfl,trivial⟩ (hself78 _ _ _ _ et11) ?_;obtain⟨t12,et12,h⟩:=ob h;refine .callS [(.fz 1 (x5.map AB)),(.fz 1 (t11.map AB))] (.fz 1 (t12.map AB)) 22 rfl (by decide) NX rfl rfl rfl ⟨rfl,rfl,rfl,rfl,trivial⟩ (GJ et12) ?_;refine .a 5 ?_;refine .nK [0,1,2,7,8,9] ?_;refine .seq_mid (fun ρ H=>∃ (b13:Bool),ρ=[(0,(.fz 5 (p0.map AJ))),(1,(AI p1)),(7,(AA x6)),(8,(.fz 1 (t12.map AB))),(9,(AB b13))]∧H=[]∧Fp k rec7 x6 t12 b13=some r) ?_ ?_
    ·refine .a 5 ?_;refine .wK [0,1,2,7,8,9,10] ?_;refine .loop (fun kq ρ H=>∃ (b15:Bool) (x16:Int),ρ=[(0,(.fz 5 (p0.map AJ))),(1,(AI p1)),(2,(.fz 1 (x5.map AB))),(7,(AA x6)),(8,(.fz 1 (t12.map AB))),(9,(AB b15)),(10,(AA x16))]∧H=[]∧Ct k rec7 x5 x6 t12 kq b15 x16=some r) k ⟨true,(0:Int),rfl,rfl,h⟩ ?_;rintro kq18 _ _ ⟨b15,x16,rfl,rfl,h⟩
     cases kq18 with
     | zero=>rw[Ct.eq_1]at h;cases h
     | succ kq18=>
     rw[Ct.eq_2]at h;generalize hrec17:Ct k rec7 x5 x6 t12 kq18=rec17 at h;refine .a 8 ?_;rcases oi h with⟨c19,h⟩|⟨c19,h⟩
     ·refine .a 4 ?_;obtain⟨b20,q21,h⟩:=ob h;refine .regQM (by rfl) (by decide+kernel) [(0,(.fz 5 (p0.map AJ))),(1,(AI p1)),(2,(.fz 1 (x5.map AB))),(7,(AA x6)),(8,(.fz 1 (t12.map AB))),(9,(AB b20)),(10,(AA x16))] ?_ ?_
      ·refine .a 2 ?_;rcases oi q21 with⟨c22,q21⟩|⟨c22,q21⟩
       ·refine .a 2 ?_;obtain⟨g23,q21⟩:=AD q21;refine .a 4 ?_;obtain⟨g24,q21⟩:=AD q21;refine .a 2 ?_;refine .cG (x:=AB ((AC t12 x16)==(AC x5 x16))) rfl rfl (bD c22) (.boolEq rfl rfl rfl Tryz.underlying4) ?_;refine .a 2 ?_;cases q21;refine .nilE rfl ?_;exact⟨rfl,rfl,rfl,rfl,rfl,rfl,rfl,trivial⟩
       refine .a 11 ?_;cases q21;refine .nilE rfl ?_;exact⟨rfl,rfl,rfl,rfl,rfl,rfl,rfl,trivial⟩
      refine .a 4 ?_;refine .nK [0,1,2,7,8,9,10] ?_;exact⟨kq18,Nat.lt_succ_self _,b20,(AH (x16+(1:Int))),rfl,rfl,by rw[hrec17];exact h⟩
     refine .a 1 ?_;refine .eK [0,1,7,8,9] ?_;exact⟨b15,rfl,rfl,h⟩
    rintro _ _ ⟨b13,rfl,rfl,h⟩;rw[Fp.eq_1]at h;refine .a 5 ?_;rcases oi h with⟨c14,h⟩|⟨c14,h⟩
    ·refine .a 5 ?_;refine .nK [6] ?_;refine .rK [6] ?_;have hr:=Option.some.inj h;subst hr;exact⟨[(.fz 1 (t12.map AB))],⟨rfl,rfl,trivial⟩,rfl⟩
    refine .a 5 ?_;refine .nK [0,1,2,7] ?_;exact⟨t12,rfl,rfl,h⟩
   rintro _ _ ⟨x10,rfl,rfl,h⟩;rw[Gp.eq_1]at h;refine .a 4 ?_;refine .nK [0,1,2,7] ?_;exact⟨kq8,Nat.lt_succ_self _,x10,(AH (x6+(1:Int))),rfl,rfl,by rw[hrec7];exact h⟩
  refine .a 1 ?_;refine .eK [2] ?_;exact⟨x5,rfl,rfl,h⟩
 rintro _ _ ⟨x4,rfl,rfl,h⟩;rw[I8.eq_1]at h;refine .a 4 ?_;refine .nK [6] ?_;refine .rK [6] ?_;have hr:=Option.some.inj h;subst hr;exact⟨[(.fz 1 (x4.map AB))],⟨rfl,rfl,trivial⟩,rfl⟩
theorem MN {k:Nat} {p0:(List AE)} {p1:ByteArray} {p2:(List Bool)} {r:(List Bool)} (h:SD k p0 p1 p2=some r):AM Tryz.prog 78 [(.fz 5 (p0.map AJ)),(AI p1),(.fz 1 (p2.map AB))] (IC r):=(OA k k).1 p0 p1 p2 r h
end Go.Avl.TC
namespace Go.Avl.TC
open Go Go.RowKit Go.Proofs Go.Avl
set_option linter.unusedVariables false
set_option maxRecDepth 100000
set_option maxHeartbeats 4000000
attribute [local irreducible] AW AO AQ AM Al AG
def SW (k:Nat) (p0:(List AE)) (p1:ByteArray):Option Bool:=
 if 0≤(AH ((p1.size:Int)+(1:Int)))∧(AH ((p1.size:Int)+(1:Int)))*(1:Int)≤140737488355328∧(AH ((p1.size:Int)+(1:Int)))≤9223372036854775807 then if 0≤(0:Int)∧(0:Int)<((List.replicate (AH ((p1.size:Int)+(1:Int))).toNat false).length:Int)then(SD k p0 p1 (Ac (List.replicate (AH ((p1.size:Int)+(1:Int))).toNat false) (0:Int) true)).bind fun t6=>
 if 0≤(p1.size:Int)∧(p1.size:Int)<(t6.length:Int)then some ((AC t6 (p1.size:Int)))
 else none
 else none
 else none
theorem O1 {k:Nat} {p0:(List AE)} {p1:ByteArray} {r:Bool} (h:SW k p0 p1=some r):AM Tryz.prog 46 [(.fz 5 (p0.map AJ)),(AI p1)] (AB r):=by
 rw[SW.eq_1]at h;refine AM.intro (res:=[.tmp 4]) Tryz.func46 rfl rfl rfl (Nat.le_of_ble_eq_true rfl) ?_;refine .a 9 ?_;obtain⟨g4,h⟩:=AD h;refine .makeL (f:=AB) false rfl 9 rfl (by decide) rfl rfl rfl Tryz.underlying95 C1 KS GV E8 rfl g4 fun n3=>?_;refine .a 5 ?_;obtain⟨g5,h⟩:=AD h;refine .a 1 ?_;refine .store 0 rfl rfl rfl rfl rfl rfl (.cast (.lidx (0:Int) true g5.1 g5.2 .here) (by omega)) rfl rfl C1 rfl ?_;refine .coe 5 (y':=(.own n3 0 (Ac (List.replicate (AH ((p1.size:Int)+(1:Int))).toNat false) (0:Int) true).length)) rfl (fun _ _ h=>Av h) ?_;refine .coe 10 (y':=(.own n3 0 (Ac (List.replicate (AH ((p1.size:Int)+(1:Int))).toNat false) (0:Int) true).length)) rfl (fun _ _ h=>Av h) ?_;refine .a 6 ?_;obtain⟨t6,et6,h⟩:=ob h;refine .freezeS 0 [(5,(KP (Ac (List.replicate (AH ((p1.size:Int)+(1:Int))).toNat false) (0:Int) true))),(14,(KP (Ac (List.replicate (AH ((p1.size:Int)+(1:Int))).toNat false) (0:Int) true)))] rfl ⟨Ad rfl,Ad rfl,trivial⟩ ?_;refine .callS [(.fz 5 (p0.map AJ)),(AI p1),(KP (Ac (List.replicate (AH ((p1.size:Int)+(1:Int))).toNat false) (0:Int) true))] (.fz 1 (t6.map AB)) 15 rfl (by decide) J6 rfl rfl rfl ⟨rfl,rfl,rfl,rfl,rfl,rfl,trivial⟩ (MN et6) ?_;refine .a 2 ?_;obtain⟨g7,h⟩:=AD h;refine .a 3 ?_;refine .nK [4] ?_;refine .rK [4] ?_;cases h;exact⟨[(AB (AC t6 (p1.size:Int)))],⟨rfl,rfl,trivial⟩,rfl⟩
def HG (k:Nat) (p0:(List B7)) (p1:Int):Option Int:=
 Option.bind (α:=Bool) (if((AC p0 p1).f1)<(0:Int)then some (true)
 else some (decide ((2:Int)<((AC p0 p1).f1)))) fun b7=>
 if b7=true then some ((1:Int))
 else(QZ k ((AC p0 p1).f2)).bind fun t11=>
 if t11.2≠(0:Int)then some (t11.2)
 else(SW k t11.1 (ByteArray.mk #[])).bind fun t13=>
 if t13=true then some ((14:Int))
 else some ((0:Int))
def DD (k:Nat) (p0:(List B7)) (p1:Int):Nat→Int→Option Int
 | 0,_=>none
 | j+1,x15=>
   if x15<p1 then if 0≤x15∧x15<(p0.length:Int)then if((AC p0 x15).f0)=((AC p0 p1).f0)then some ((9:Int))
   else(DD k p0 p1 j) (AH (x15+(1:Int)))
   else none
   else HG k p0 p1
def Sa (k:Nat) (p0:(List B7)) (p1:Int):Option Int:=
 if 0≤p1∧p1<(p0.length:Int)then(Rj k ((AC p0 p1).f0)).bind fun t5=>
 if(!t5)=true then some ((8:Int))
 else DD k p0 p1 k (0:Int)
 else none
theorem Ok {k:Nat} {p0:(List B7)} {p1:Int} {r:Int} (h:Sa k p0 p1=some r):AM Tryz.prog 41 [(.fz 3 (p0.map DT)),(AA p1)] (AA r):=by
 rw[Sa.eq_1]at h;refine AM.intro (res:=[.tmp 4]) Tryz.func41 rfl rfl rfl (Nat.le_of_ble_eq_true rfl) ?_;refine .a 8 ?_;obtain⟨g3,h⟩:=AD h;refine .a 2 ?_;refine .alloc rfl 5 rfl (by decide) rfl Ni Je fun n4=>?_;refine .store 0 rfl rfl rfl rfl rfl rfl (.cast .here rfl) rfl rfl K6 rfl ?_;refine .a 6 ?_;obtain⟨t5,et5,h⟩:=ob h;refine .callS [(AI ((AC p0 p1).f0))] (AB t5) 15 rfl (by decide) Ro rfl rfl rfl ⟨rfl,rfl,trivial⟩ (Hn et5) ?_;refine .a 2 ?_;rcases oi h with⟨c6,h⟩|⟨c6,h⟩
 ·refine .a 4 ?_;refine .nS [4] [] ?_;refine .rK [4] ?_;cases h;exact⟨[(AA (8:Int))],⟨rfl,rfl,trivial⟩,rfl⟩
 refine .a 1 ?_;refine .sK [0,1,5] ?_;refine .seq_mid (fun ρ H=>ρ=[(5,(.ptr n4 0))]∧H=[(n4,(.mem (DT (AC p0 p1))))]∧HG k p0 p1=some r) ?_ ?_
 ·refine .a 5 ?_;refine .wK [0,1,5,6] ?_;refine .loop (fun kq ρ H=>∃ (x15:Int),ρ=[(0,(.fz 3 (p0.map DT))),(1,(AA p1)),(5,(.ptr n4 0)),(6,(AA x15))]∧H=[(n4,(.mem (DT (AC p0 p1))))]∧DD k p0 p1 kq x15=some r) k ⟨(0:Int),rfl,rfl,h⟩ ?_;rintro kq17 _ _ ⟨x15,rfl,rfl,h⟩
  cases kq17 with
  | zero=>rw[DD.eq_1]at h;cases h
  | succ kq17=>
  rw[DD.eq_2]at h;generalize hrec16:DD k p0 p1 kq17=rec16 at h;refine .a 7 ?_;rcases oi h with⟨c18,h⟩|⟨c18,h⟩
  ·refine .a 5 ?_;refine .regQ (by rfl) (by decide+kernel) ?_;refine .a 2 ?_;obtain⟨g19,h⟩:=AD h;refine .a 1 ?_;refine .c (.fldRp rfl rfl Tryz.underlying53 rfl JZ (.cast (.fld0 .here) rfl)) ?_;refine .a 5 ?_;rcases oi h with⟨c20,h⟩|⟨c20,h⟩
   ·refine .a 4 ?_;refine .nS [4] [] ?_;refine .rK [4] ?_;cases h;exact⟨[(AA (9:Int))],⟨rfl,rfl,trivial⟩,rfl⟩
   refine .a 6 ?_;refine .nK [0,1,5,6] ?_;exact⟨kq17,Nat.lt_succ_self _,(AH (x15+(1:Int))),rfl,rfl,by rw[hrec16];exact h⟩
  refine .a 1 ?_;refine .eK [5] ?_;exact⟨rfl,rfl,h⟩
 rintro _ _ ⟨rfl,rfl,h⟩;rw[HG.eq_1]at h;refine .a 2 ?_;obtain⟨b7,q8,h⟩:=ob h;refine .regM [(5,(.ptr n4 0)),(37,(AB b7))] [(n4,(.mem (DT (AC p0 p1))))] ?_ ?_
 ·refine .a 4 ?_;rcases oi q8 with⟨c9,q8⟩|⟨c9,q8⟩
  ·refine .a 4 ?_;cases q8;refine .nilE ⟨rfl,rfl⟩ ?_ ?_
   ·exact⟨rfl,rfl,trivial⟩
   exact(.refl _)
  refine .a 4 ?_;cases q8;refine .nilE ⟨rfl,rfl⟩ ?_ ?_
  ·exact⟨rfl,rfl,trivial⟩
  exact(.refl _)
 rcases oi h with⟨c10,h⟩|⟨c10,h⟩
 ·refine .a 4 ?_;refine .nS [4] [] ?_;refine .rK [4] ?_;cases h;exact⟨[(AA (1:Int))],⟨rfl,rfl,trivial⟩,rfl⟩
 refine .a 6 ?_;obtain⟨t11,et11,h⟩:=ob h;refine .callS [(AI ((AC p0 p1).f2))] (.tup [(BK t11.1),(AA t11.2)]) 41 rfl (by decide) VT rfl rfl rfl ⟨rfl,rfl,trivial⟩ (PI et11) ?_;refine .a 5 ?_;refine .nS [7,8] [] ?_;refine .a 6 ?_;rcases oi h with⟨c12,h⟩|⟨c12,h⟩
 ·refine .a 5 ?_;refine .nK [4] ?_;refine .rK [4] ?_;cases h;exact⟨[(AA t11.2)],⟨rfl,rfl,trivial⟩,rfl⟩
 refine .a 6 ?_;obtain⟨t13,et13,h⟩:=ob h;refine .callS [(BK t11.1),(AI (ByteArray.mk #[]))] (AB t13) 48 rfl (by decide) Uo rfl rfl rfl ⟨rfl,rfl,rfl,rfl,trivial⟩ (O1 et13) ?_;refine .a 1 ?_;rcases oi h with⟨c14,h⟩|⟨c14,h⟩
 ·refine .a 4 ?_;refine .nK [4] ?_;refine .rK [4] ?_;cases h;exact⟨[(AA (14:Int))],⟨rfl,rfl,trivial⟩,rfl⟩
 refine .a 5 ?_;refine .nK [4] ?_;refine .rK [4] ?_;cases h;exact⟨[(AA (0:Int))],⟨rfl,rfl,trivial⟩,rfl⟩
def LL (k:Nat) (p0:(List B7)):Option (Int×Int):=
 some ((p0.length:Int),(0:Int))
def C4 (k:Nat) (p0:(List B7)):Nat→Int→Option (Int×Int)
 | 0,_=>none
 | j+1,x3=>
   if x3<(p0.length:Int)then(Sa k p0 x3).bind fun t7=>
   if t7≠(0:Int)then some (x3,t7)
   else(C4 k p0 j) (AH (x3+(1:Int)))
   else LL k p0
def UZ (k:Nat) (p0:(List B7)):Option (Int×Int):=
 if(60:Int)<(p0.length:Int)then some ((p0.length:Int),(6:Int))
 else C4 k p0 k (0:Int)
theorem Ou {k:Nat} {p0:(List B7)} {r:(Int×Int)} (h:UZ k p0=some r):AM Tryz.prog 13 [(.fz 3 (p0.map DT))] (.tup [(AA r.1),(AA r.2)]):=by
 rw[UZ.eq_1]at h;refine AM.intro (res:=[.tmp 2,.tmp 3]) Tryz.func13 rfl rfl rfl (Nat.le_of_ble_eq_true rfl) ?_;refine .a 12 ?_;rcases oi h with⟨c2,h⟩|⟨c2,h⟩
 ·refine .a 7 ?_;refine .nK [2,3] ?_;refine .rK [2,3] ?_;cases h;exact⟨[(AA (p0.length:Int)),(AA (6:Int))],⟨rfl,rfl,rfl,rfl,trivial⟩,rfl⟩
 refine .a 1 ?_;refine .sK [0] ?_;refine .seq_mid (fun ρ H=>ρ=[(0,(.fz 3 (p0.map DT)))]∧H=[]∧LL k p0=some r) ?_ ?_
 ·refine .a 5 ?_;refine .wK [0,4] ?_;refine .loop (fun kq ρ H=>∃ (x3:Int),ρ=[(0,(.fz 3 (p0.map DT))),(4,(AA x3))]∧H=[]∧C4 k p0 kq x3=some r) k ⟨(0:Int),rfl,rfl,h⟩ ?_;rintro kq5 _ _ ⟨x3,rfl,rfl,h⟩
  cases kq5 with
  | zero=>rw[C4.eq_1]at h;cases h
  | succ kq5=>
  rw[C4.eq_2]at h;generalize hrec4:C4 k p0 kq5=rec4 at h;refine .a 8 ?_;rcases oi h with⟨c6,h⟩|⟨c6,h⟩
  ·refine .a 8 ?_;obtain⟨t7,et7,h⟩:=ob h;refine .callS [(.fz 3 (p0.map DT)),(AA x3)] (AA t7) 19 rfl (by decide) Ur rfl rfl rfl ⟨rfl,rfl,rfl,rfl,trivial⟩ (Ok et7) ?_;refine .a 7 ?_;rcases oi h with⟨c8,h⟩|⟨c8,h⟩
   ·refine .a 7 ?_;refine .nK [2,3] ?_;refine .rK [2,3] ?_;have hr:=Option.some.inj h;subst hr;exact⟨[(AA x3),(AA t7)],⟨rfl,rfl,rfl,rfl,trivial⟩,rfl⟩
   refine .a 6 ?_;refine .nK [0,4] ?_;exact⟨kq5,Nat.lt_succ_self _,(AH (x3+(1:Int))),rfl,rfl,by rw[hrec4];exact h⟩
  refine .a 1 ?_;refine .eK [0] ?_;exact⟨rfl,rfl,h⟩
 rintro _ _ ⟨rfl,rfl,h⟩;rw[LL.eq_1]at h;refine .a 6 ?_;refine .nK [2,3] ?_;refine .rK [2,3] ?_;cases h;exact⟨[(AA (p0.length:Int)),(AA (0:Int))],⟨rfl,rfl,rfl,rfl,trivial⟩,rfl⟩
def Ko (k:Nat):Option Int:=
 some ((0:Int))
def D3 (k:Nat) (p0:A6) (p1:Int):Nat→Int→Option Int
 | 0,_=>none
 | j+1,x7=>
   if x7<(p0.f0.length:Int)then if 0≤x7∧x7<(p0.f0.length:Int)then if 0≤p1∧p1<(p0.f1.length:Int)then if((AC p0.f0 x7).f0)=(AC p0.f1 p1)then some ((9:Int))
   else(D3 k p0 p1 j) (AH (x7+(1:Int)))
   else none
   else none
   else Ko k
def It (k:Nat) (p0:A6) (p1:Int):Option Int:=
 D3 k p0 p1 k (0:Int)
def D6 (k:Nat) (p0:A6) (p1:Int):Nat→Int→Option Int
 | 0,_=>none
 | j+1,x14=>
   if x14<p1 then if 0≤x14∧x14<(p0.f1.length:Int)then if 0≤p1∧p1<(p0.f1.length:Int)then if(AC p0.f1 x14)=(AC p0.f1 p1)then some ((9:Int))
   else(D6 k p0 p1 j) (AH (x14+(1:Int)))
   else none
   else none
   else It k p0 p1
def S8 (k:Nat) (p0:A6) (p1:Int):Option Int:=
 if 0≤p1∧p1<(p0.f1.length:Int)then(Rj k (AC p0.f1 p1)).bind fun t5=>
 if(!t5)=true then some ((8:Int))
 else D6 k p0 p1 k (0:Int)
 else none
theorem Ob {k:Nat} {p0:A6} {p1:Int} {r:Int} (h:S8 k p0 p1=some r):AM Tryz.prog 26 [(BA p0),(AA p1)] (AA r):=by
 rw[S8.eq_1]at h;refine AM.intro (res:=[.tmp 4]) Tryz.func26 rfl rfl rfl (Nat.le_of_ble_eq_true rfl) ?_;refine .sr ?_;refine .box rfl 2 rfl (by decide) rfl rfl rfl fun n3=>?_;refine .a 8 ?_;obtain⟨g4,h⟩:=AD h;refine .a 2 ?_;obtain⟨t5,et5,h⟩:=ob h;refine .callS [(AI (AC p0.f1 p1))] (AB t5) 12 rfl (by decide) Ro rfl rfl rfl ⟨rfl,rfl,trivial⟩ (Hn et5) ?_;refine .a 2 ?_;rcases oi h with⟨c6,h⟩|⟨c6,h⟩
 ·refine .a 4 ?_;refine .nS [4] [] ?_;refine .rK [4] ?_;cases h;exact⟨[(AA (8:Int))],⟨rfl,rfl,trivial⟩,rfl⟩
 refine .a 1 ?_;refine .sK [1,2] ?_;refine .seq_mid (fun ρ H=>ρ=[(1,(AA p1)),(2,(.ptr n3 0))]∧H=[(n3,(.mem (BA p0)))]∧It k p0 p1=some r) ?_ ?_
 ·refine .a 5 ?_;refine .wK [1,2,5] ?_;refine .loop (fun kq ρ H=>∃ (x14:Int),ρ=[(1,(AA p1)),(2,(.ptr n3 0)),(5,(AA x14))]∧H=[(n3,(.mem (BA p0)))]∧D6 k p0 p1 kq x14=some r) k ⟨(0:Int),rfl,rfl,h⟩ ?_;rintro kq16 _ _ ⟨x14,rfl,rfl,h⟩
  cases kq16 with
  | zero=>rw[D6.eq_1]at h;cases h
  | succ kq16=>
  rw[D6.eq_2]at h;generalize hrec15:D6 k p0 p1 kq16=rec15 at h;refine .a 7 ?_;rcases oi h with⟨c17,h⟩|⟨c17,h⟩
  ·refine .a 5 ?_;refine .regQ (by rfl) (by decide+kernel) ?_;refine .a 3 ?_;obtain⟨g18,h⟩:=AD h;refine .a 5 ?_;obtain⟨g19,h⟩:=AD h;refine .a 4 ?_;rcases oi h with⟨c20,h⟩|⟨c20,h⟩
   ·refine .a 4 ?_;refine .nS [4] [] ?_;refine .rK [4] ?_;cases h;exact⟨[(AA (9:Int))],⟨rfl,rfl,trivial⟩,rfl⟩
   refine .a 6 ?_;refine .nK [1,2,5] ?_;exact⟨kq16,Nat.lt_succ_self _,(AH (x14+(1:Int))),rfl,rfl,by rw[hrec15];exact h⟩
  refine .a 1 ?_;refine .eK [1,2] ?_;exact⟨rfl,rfl,h⟩
 rintro _ _ ⟨rfl,rfl,h⟩;rw[It.eq_1]at h;refine .seq_mid (fun ρ H=>ρ=[]∧H=[]∧Ko k=some r) ?_ ?_
 ·refine .a 5 ?_;refine .wK [1,2,6] ?_;refine .loop (fun kq ρ H=>∃ (x7:Int),ρ=[(1,(AA p1)),(2,(.ptr n3 0)),(6,(AA x7))]∧H=[(n3,(.mem (BA p0)))]∧D3 k p0 p1 kq x7=some r) k ⟨(0:Int),rfl,rfl,h⟩ ?_;rintro kq9 _ _ ⟨x7,rfl,rfl,h⟩
  cases kq9 with
  | zero=>rw[D3.eq_1]at h;cases h
  | succ kq9=>
  rw[D3.eq_2]at h;generalize hrec8:D3 k p0 p1 kq9=rec8 at h;refine .a 9 ?_;rcases oi h with⟨c10,h⟩|⟨c10,h⟩
  ·refine .a 5 ?_;refine .regQ (by rfl) (by decide+kernel) ?_;refine .a 3 ?_;obtain⟨g11,h⟩:=AD h;refine .a 1 ?_;refine .c (.fldRp rfl rfl Tryz.underlying53 rfl JZ (.cast (.fld0 .here) rfl)) ?_;refine .a 4 ?_;obtain⟨g12,h⟩:=AD h;refine .a 4 ?_;rcases oi h with⟨c13,h⟩|⟨c13,h⟩
   ·refine .a 4 ?_;refine .nS [4] [] ?_;refine .rK [4] ?_;cases h;exact⟨[(AA (9:Int))],⟨rfl,rfl,trivial⟩,rfl⟩
   refine .a 6 ?_;refine .nK [1,2,6] ?_;exact⟨kq9,Nat.lt_succ_self _,(AH (x7+(1:Int))),rfl,rfl,by rw[hrec8];exact h⟩
  refine .a 1 ?_;refine .eH [] (H':=[]) (.nil _) ?_;exact⟨rfl,rfl,h⟩
 rintro _ _ ⟨rfl,rfl,h⟩;rw[Ko.eq_1]at h;refine .a 3 ?_;refine .nK [4] ?_;refine .rK [4] ?_;cases h;exact⟨[(AA (0:Int))],⟨rfl,rfl,trivial⟩,rfl⟩
def Sk (k:Nat) (p0:A6) (p1:A7):Option Bool:=
 if p1.f0=true then Option.bind (α:=Bool) (if(0:Int)≤p1.f1 then some (decide (p1.f1<(p0.f1.length:Int)))
 else some (false)) fun b6=>
 some (b6)
 else Option.bind (α:=Bool) (if(0:Int)≤p1.f1 then if p1.f1<(p0.f0.length:Int)then if 0≤p1.f1∧p1.f1<(p0.f0.length:Int)then some (decide (((AC p0.f0 p1.f1).f1)=(0:Int)))
 else none
 else some (false)
 else some (false)) fun b9=>
 some (b9)
theorem Ho {k:Nat} {p0:A6} {p1:A7} {r:Bool} (h:Sk k p0 p1=some r):AM Tryz.prog 57 [(BA p0),(Ea p1)] (AB r):=by
 rw[Sk.eq_1]at h;refine AM.intro (res:=[.tmp 4]) Tryz.func57 rfl rfl rfl (Nat.le_of_ble_eq_true rfl) ?_;refine .sr ?_;refine .box rfl 2 rfl (by decide) rfl rfl rfl fun n3=>?_;refine .box rfl 3 rfl (by decide) rfl rfl rfl fun n4=>?_;refine .a 1 ?_;refine .nS [2,3] [1,0] ?_;refine .a 6 ?_;rcases oi h with⟨c5,h⟩|⟨c5,h⟩
 ·refine .a 2 ?_;obtain⟨b6,q7,h⟩:=ob h;refine .regM [(4,(AB b6))] [] ?_ ?_
  ·refine .a 4 ?_;rcases oi q7 with⟨c8,q7⟩|⟨c8,q7⟩
   ·refine .a 8 ?_;cases q7;refine .nilE ⟨rfl,rfl⟩ ?_ ?_
    ·exact⟨rfl,trivial⟩
    exact(.nil _)
   refine .a 8 ?_;cases q7;refine .nilE ⟨rfl,rfl⟩ ?_ ?_
   ·exact⟨rfl,trivial⟩
   exact(.nil _)
  refine .rK [4] ?_;have hr:=Option.some.inj h;subst hr;exact⟨[(AB b6)],⟨rfl,rfl,trivial⟩,rfl⟩
 refine .a 3 ?_;obtain⟨b9,q10,h⟩:=ob h;refine .regM [(4,(AB b9))] [] ?_ ?_
 ·refine .a 4 ?_;rcases oi q10 with⟨c11,q10⟩|⟨c11,q10⟩
  ·refine .a 8 ?_;rcases oi q10 with⟨c12,q10⟩|⟨c12,q10⟩
   ·refine .a 4 ?_;obtain⟨g13,q10⟩:=AD q10;refine .a 1 ?_;refine .cG rfl rfl (bD (decide_eq_true c12)) (.fldRp rfl rfl Tryz.underlying53 rfl DZ (.cast (.fldS (.fld0 .here)) rfl)) ?_;refine .a 4 ?_;cases q10;refine .nilE ⟨rfl,rfl⟩ ?_ ?_
    ·exact⟨rfl,trivial⟩
    exact(.nil _)
   refine .a 10 ?_;cases q10;refine .nilE ⟨rfl,rfl⟩ ?_ ?_
   ·exact⟨rfl,trivial⟩
   exact(.nil _)
  refine .a 18 ?_;cases q10;refine .nilE ⟨rfl,rfl⟩ ?_ ?_
  ·exact⟨rfl,trivial⟩
  exact(.nil _)
 refine .rK [4] ?_;have hr:=Option.some.inj h;subst hr;exact⟨[(AB b9)],⟨rfl,rfl,trivial⟩,rfl⟩
def UJ (k:Nat) (p0:Dx):Option Bool:=
 Option.bind (α:=Bool) (if(p0.f2.length:Int)=(3:Int)then if 0≤(0:Int)∧(0:Int)<(p0.f2.length:Int)then if(!((AC p0.f2 (0:Int)).f0))=true then if 0≤(1:Int)∧(1:Int)<(p0.f2.length:Int)then if((AC p0.f2 (1:Int)).f0)=true then if 0≤(1:Int)∧(1:Int)<(p0.f2.length:Int)then if((AC p0.f2 (1:Int)).f1)=p0.f0 then if 0≤(2:Int)∧(2:Int)<(p0.f2.length:Int)then some (!((AC p0.f2 (2:Int)).f0))
 else none
 else some (false)
 else none
 else some (false)
 else none
 else some (false)
 else none
 else some (false)) fun b3=>
 some (b3)
theorem NS {k:Nat} {p0:Dx} {r:Bool} (h:UJ k p0=some r):AM Tryz.prog 58 [(Di p0)] (AB r):=by
 rw[UJ.eq_1]at h;refine AM.intro (res:=[.tmp 2]) Tryz.func58 rfl rfl rfl (Nat.le_of_ble_eq_true rfl) ?_;refine .sr ?_;refine .box rfl 1 rfl (by decide) rfl rfl rfl fun n2=>?_;refine .a 3 ?_;obtain⟨b3,q4,h⟩:=ob h;refine .regQM (by rfl) (by decide+kernel) [(2,(AB b3))] ?_ ?_
 ·refine .a 5 ?_;rcases oi q4 with⟨c5,q4⟩|⟨c5,q4⟩
  ·refine .a 2 ?_;obtain⟨g6,q4⟩:=AD q4;refine .a 1 ?_;refine .cG rfl rfl (bD (decide_eq_true c5)) (.fldRp rfl rfl Tryz.underlying55 rfl C1 (.cast (.fld0 .here) rfl)) ?_;refine .a 4 ?_;rcases oi q4 with⟨c7,q4⟩|⟨c7,q4⟩
   ·refine .a 2 ?_;obtain⟨g8,q4⟩:=AD q4;refine .a 1 ?_;refine .cG rfl rfl (bD c7) (.fldRp rfl rfl Tryz.underlying55 rfl C1 (.cast (.fld0 .here) rfl)) ?_;refine .a 3 ?_;rcases oi q4 with⟨c9,q4⟩|⟨c9,q4⟩
    ·refine .a 2 ?_;obtain⟨g10,q4⟩:=AD q4;refine .a 1 ?_;refine .cG rfl rfl (bD c9) (.fldRp rfl rfl Tryz.underlying55 rfl DZ (.cast (.fldS (.fld0 .here)) rfl)) ?_;refine .a 6 ?_;rcases oi q4 with⟨c11,q4⟩|⟨c11,q4⟩
     ·refine .a 2 ?_;obtain⟨g12,q4⟩:=AD q4;refine .a 1 ?_;refine .cG rfl rfl (bD (decide_eq_true c11)) (.fldRp rfl rfl Tryz.underlying55 rfl C1 (.cast (.fld0 .here) rfl)) ?_;refine .a 4 ?_;cases q4;refine .nilE rfl ?_;exact⟨rfl,trivial⟩
     refine .a 8 ?_;cases q4;refine .nilE rfl ?_;exact⟨rfl,trivial⟩
    refine .a 18 ?_;cases q4;refine .nilE rfl ?_;exact⟨rfl,trivial⟩
   refine .a 25 ?_;cases q4;refine .nilE rfl ?_;exact⟨rfl,trivial⟩
  refine .a 33 ?_;cases q4;refine .nilE rfl ?_;exact⟨rfl,trivial⟩
 refine .rH [2] (H':=[]) (.nil _) ?_;have hr:=Option.some.inj h;subst hr;exact⟨[(AB b3)],⟨rfl,rfl,trivial⟩,rfl⟩
def HU (k:Nat) (p0:A6) (p1:Int):Option Int:=
 Option.bind (α:=Bool) (if((AC p0.f2 p1).f4)≠(-1:Int)then(Sk k p0 (A7.mk false ((AC p0.f2 p1).f4))).bind fun t17=>
 some (!t17)
 else some (false)) fun b14=>
 if b14=true then some ((11:Int))
 else Option.bind (α:=Bool) (if((AC p0.f2 p1).f3)=true then(UJ k (AC p0.f2 p1)).bind fun t22=>
 some (!t22)
 else some (false)) fun b19=>
 if b19=true then some ((15:Int))
 else some ((0:Int))
def Ed (k:Nat) (p0:A6) (p1:Int):Nat→Int→Option Int
 | 0,_=>none
 | j+1,x24=>
   if x24<(((AC p0.f2 p1).f5).length:Int)then Option.bind (α:=Bool) (if 0≤x24∧x24<(((AC p0.f2 p1).f5).length:Int)then if(AC ((AC p0.f2 p1).f5) x24)<(0:Int)then some (true)
   else if 0≤x24∧x24<(((AC p0.f2 p1).f5).length:Int)then some (decide ((3:Int)<(AC ((AC p0.f2 p1).f5) x24)))
   else none
   else none) fun b28=>
   if b28=true then some ((1:Int))
   else(Ed k p0 p1 j) (AH (x24+(1:Int)))
   else HU k p0 p1
def JH (k:Nat) (p0:A6) (p1:Int):Option Int:=
 Ed k p0 p1 k (0:Int)
def Eg (k:Nat) (p0:A6) (p1:Int):Nat→Int→Option Int
 | 0,_=>none
 | j+1,x34=>
   if x34<(((AC p0.f2 p1).f2).length:Int)then if 0≤x34∧x34<(((AC p0.f2 p1).f2).length:Int)then(Sk k p0 (AC ((AC p0.f2 p1).f2) x34)).bind fun t39=>
   if(!t39)=true then some ((11:Int))
   else(Eg k p0 p1 j) (AH (x34+(1:Int)))
   else none
   else JH k p0 p1
def Ii (k:Nat) (p0:A6) (p1:Int):Option Int:=
 Eg k p0 p1 k (0:Int)
def EK (k:Nat) (p0:A6) (p1:Int):Nat→Int→Option Int
 | 0,_=>none
 | j+1,x41=>
   if x41<p1 then if 0≤x41∧x41<(p0.f2.length:Int)then if((AC p0.f2 x41).f1)=((AC p0.f2 p1).f1)then some ((9:Int))
   else(EK k p0 p1 j) (AH (x41+(1:Int)))
   else none
   else Ii k p0 p1
def UQ (k:Nat) (p0:A6) (p1:Int):Option Int:=
 if 0≤p1∧p1<(p0.f2.length:Int)then Option.bind (α:=Bool) (if((AC p0.f2 p1).f0)<(0:Int)then some (true)
 else some (decide ((p0.f1.length:Int)≤((AC p0.f2 p1).f0)))) fun b6=>
 if b6=true then some ((11:Int))
 else(Rj k ((AC p0.f2 p1).f1)).bind fun t10=>
 if(!t10)=true then some ((8:Int))
 else if(12:Int)<(((AC p0.f2 p1).f2).length:Int)then some ((6:Int))
 else if(((AC p0.f2 p1).f5).length:Int)≠(max (0:Int) (AH ((((AC p0.f2 p1).f2).length:Int) - (1:Int))))then some ((1:Int))
 else EK k p0 p1 k (0:Int)
 else none
theorem N0 {k:Nat} {p0:A6} {p1:Int} {r:Int} (h:UQ k p0 p1=some r):AM Tryz.prog 27 [(BA p0),(AA p1)] (AA r):=by
 rw[UQ.eq_1]at h;refine AM.intro (res:=[.tmp 4]) Tryz.func27 rfl rfl rfl (Nat.le_of_ble_eq_true rfl) ?_;refine .sr ?_;refine .box rfl 2 rfl (by decide) rfl rfl rfl fun n3=>?_;refine .a 7 ?_;obtain⟨g4,h⟩:=AD h;refine .a 2 ?_;refine .alloc rfl 5 rfl (by decide) rfl KB GS fun n5=>?_;refine .store 0 rfl rfl rfl rfl rfl rfl (.cast .here rfl) rfl rfl HQ rfl ?_;refine .nS [1,2,5] [1,0] ?_;refine .a 2 ?_;obtain⟨b6,q7,h⟩:=ob h;refine .regM [(1,(AA p1)),(2,(.ptr n3 0)),(5,(.ptr n5 0)),(24,(AB b6))] [(n3,(.mem (BA p0))),(n5,(.mem (Di (AC p0.f2 p1))))] ?_ ?_
 ·refine .a 4 ?_;rcases oi q7 with⟨c8,q7⟩|⟨c8,q7⟩
  ·refine .a 7 ?_;cases q7;refine .nilE ⟨rfl,rfl⟩ ?_ ?_
   ·exact⟨rfl,rfl,rfl,rfl,trivial⟩
   exact(.refl _)
  refine .a 7 ?_;cases q7;refine .nilE ⟨rfl,rfl⟩ ?_ ?_
  ·exact⟨rfl,rfl,rfl,rfl,trivial⟩
  exact(.refl _)
 rcases oi h with⟨c9,h⟩|⟨c9,h⟩
 ·refine .a 4 ?_;refine .nS [4] [] ?_;refine .rK [4] ?_;cases h;exact⟨[(AA (11:Int))],⟨rfl,rfl,trivial⟩,rfl⟩
 refine .a 7 ?_;obtain⟨t10,et10,h⟩:=ob h;refine .callS [(AI ((AC p0.f2 p1).f1))] (AB t10) 27 rfl (by decide) Ro rfl rfl rfl ⟨rfl,rfl,trivial⟩ (Hn et10) ?_;refine .a 2 ?_;rcases oi h with⟨c11,h⟩|⟨c11,h⟩
 ·refine .a 4 ?_;refine .nS [4] [] ?_;refine .rK [4] ?_;cases h;exact⟨[(AA (8:Int))],⟨rfl,rfl,trivial⟩,rfl⟩
 refine .a 10 ?_;rcases oi h with⟨c12,h⟩|⟨c12,h⟩
 ·refine .a 4 ?_;refine .nS [4] [] ?_;refine .rK [4] ?_;cases h;exact⟨[(AA (6:Int))],⟨rfl,rfl,trivial⟩,rfl⟩
 refine .a 12 ?_;refine .c (x:=AA (max (0:Int) (AH ((((AC p0.f2 p1).f2).length:Int) - (1:Int))))) (.max2 rfl rfl rfl) ?_;refine .a 2 ?_;rcases oi h with⟨c13,h⟩|⟨c13,h⟩
 ·refine .a 4 ?_;refine .nS [4] [] ?_;refine .rK [4] ?_;cases h;exact⟨[(AA (1:Int))],⟨rfl,rfl,trivial⟩,rfl⟩
 refine .a 1 ?_;refine .sK [1,2,5] ?_;refine .seq_mid (fun ρ H=>ρ=[(2,(.ptr n3 0)),(5,(.ptr n5 0))]∧H=[(n3,(.mem (BA p0))),(n5,(.mem (Di (AC p0.f2 p1))))]∧Ii k p0 p1=some r) ?_ ?_
 ·refine .a 5 ?_;refine .wK [1,2,5,6] ?_;refine .loop (fun kq ρ H=>∃ (x41:Int),ρ=[(1,(AA p1)),(2,(.ptr n3 0)),(5,(.ptr n5 0)),(6,(AA x41))]∧H=[(n3,(.mem (BA p0))),(n5,(.mem (Di (AC p0.f2 p1))))]∧EK k p0 p1 kq x41=some r) k ⟨(0:Int),rfl,rfl,h⟩ ?_;rintro kq43 _ _ ⟨x41,rfl,rfl,h⟩
  cases kq43 with
  | zero=>rw[EK.eq_1]at h;cases h
  | succ kq43=>
  rw[EK.eq_2]at h;generalize hrec42:EK k p0 p1 kq43=rec42 at h;refine .a 7 ?_;rcases oi h with⟨c44,h⟩|⟨c44,h⟩
  ·refine .a 5 ?_;refine .regQ (by rfl) (by decide+kernel) ?_;refine .a 3 ?_;obtain⟨g45,h⟩:=AD h;refine .a 1 ?_;refine .c (.fldRp rfl rfl Tryz.underlying58 rfl JZ (.cast (.fldS (.fld0 .here)) rfl)) ?_;refine .a 5 ?_;rcases oi h with⟨c46,h⟩|⟨c46,h⟩
   ·refine .a 4 ?_;refine .nS [4] [] ?_;refine .rK [4] ?_;cases h;exact⟨[(AA (9:Int))],⟨rfl,rfl,trivial⟩,rfl⟩
   refine .a 6 ?_;refine .nK [1,2,5,6] ?_;exact⟨kq43,Nat.lt_succ_self _,(AH (x41+(1:Int))),rfl,rfl,by rw[hrec42];exact h⟩
  refine .a 1 ?_;refine .eK [2,5] ?_;exact⟨rfl,rfl,h⟩
 rintro _ _ ⟨rfl,rfl,h⟩;rw[Ii.eq_1]at h;refine .seq_mid (fun ρ H=>ρ=[(2,(.ptr n3 0)),(5,(.ptr n5 0))]∧H=[(n3,(.mem (BA p0))),(n5,(.mem (Di (AC p0.f2 p1))))]∧JH k p0 p1=some r) ?_ ?_
 ·refine .a 5 ?_;refine .wK [2,5,7] ?_;refine .loop (fun kq ρ H=>∃ (x34:Int),ρ=[(2,(.ptr n3 0)),(5,(.ptr n5 0)),(7,(AA x34))]∧H=[(n3,(.mem (BA p0))),(n5,(.mem (Di (AC p0.f2 p1))))]∧Eg k p0 p1 kq x34=some r) k ⟨(0:Int),rfl,rfl,h⟩ ?_;rintro kq36 _ _ ⟨x34,rfl,rfl,h⟩
  cases kq36 with
  | zero=>rw[Eg.eq_1]at h;cases h
  | succ kq36=>
  rw[Eg.eq_2]at h;generalize hrec35:Eg k p0 p1 kq36=rec35 at h;refine .a 9 ?_;rcases oi h with⟨c37,h⟩|⟨c37,h⟩
  ·refine .a 5 ?_;refine .regQ (by rfl) (by decide+kernel) ?_;refine .a 4 ?_;obtain⟨g38,h⟩:=AD h;refine .a 2 ?_;obtain⟨t39,et39,h⟩:=ob h;refine .c (.call (args:=[(BA p0),(Ea (AC ((AC p0.f2 p1).f2) x34))]) rfl rfl RT ⟨rfl,rfl,rfl,rfl,trivial⟩ rfl (Ho et39)) ?_;refine .a 2 ?_;rcases oi h with⟨c40,h⟩|⟨c40,h⟩
   ·refine .a 4 ?_;refine .nS [4] [] ?_;refine .rK [4] ?_;cases h;exact⟨[(AA (11:Int))],⟨rfl,rfl,trivial⟩,rfl⟩
   refine .a 6 ?_;refine .nK [2,5,7] ?_;exact⟨kq36,Nat.lt_succ_self _,(AH (x34+(1:Int))),rfl,rfl,by rw[hrec35];exact h⟩
  refine .a 1 ?_;refine .eK [2,5] ?_;exact⟨rfl,rfl,h⟩
 rintro _ _ ⟨rfl,rfl,h⟩;rw[JH.eq_1]at h;refine .seq_mid (fun ρ H=>ρ=[(2,(.ptr n3 0)),(5,(.ptr n5 0))]∧H=[(n3,(.mem (BA p0))),(n5,(.mem (Di (AC p0.f2 p1))))]∧HU k p0 p1=some r) ?_ ?_
 ·refine .a 5 ?_;refine .wK [2,5,8] ?_;refine .loop (fun kq ρ H=>∃ (x24:Int),ρ=[(2,(.ptr n3 0)),(5,(.ptr n5 0)),(8,(AA x24))]∧H=[(n3,(.mem (BA p0))),(n5,(.mem (Di (AC p0.f2 p1))))]∧Ed k p0 p1 kq x24=some r) k ⟨(0:Int),rfl,rfl,h⟩ ?_;rintro kq26 _ _ ⟨x24,rfl,rfl,h⟩
  cases kq26 with
  | zero=>rw[Ed.eq_1]at h;cases h
  | succ kq26=>
  rw[Ed.eq_2]at h;generalize hrec25:Ed k p0 p1 kq26=rec25 at h;refine .a 9 ?_;rcases oi h with⟨c27,h⟩|⟨c27,h⟩
  ·refine .a 5 ?_;obtain⟨b28,q29,h⟩:=ob h;refine .regM [(2,(.ptr n3 0)),(5,(.ptr n5 0)),(8,(AA x24)),(91,(AB b28))] [(n3,(.mem (BA p0))),(n5,(.mem (Di (AC p0.f2 p1))))] ?_ ?_
   ·refine .a 3 ?_;obtain⟨g30,q29⟩:=AD q29;refine .a 4 ?_;rcases oi q29 with⟨c31,q29⟩|⟨c31,q29⟩
    ·refine .a 7 ?_;cases q29;refine .nilE ⟨rfl,rfl⟩ ?_ ?_
     ·exact⟨rfl,rfl,rfl,rfl,trivial⟩
     exact(.refl _)
    refine .a 3 ?_;obtain⟨g32,q29⟩:=AD q29;refine .a 4 ?_;cases q29;refine .nilE ⟨rfl,rfl⟩ ?_ ?_
    ·exact⟨rfl,rfl,rfl,rfl,trivial⟩
    exact(.refl _)
   rcases oi h with⟨c33,h⟩|⟨c33,h⟩
   ·refine .a 4 ?_;refine .nS [4] [] ?_;refine .rK [4] ?_;cases h;exact⟨[(AA (1:Int))],⟨rfl,rfl,trivial⟩,rfl⟩
   refine .a 6 ?_;refine .nK [2,5,8] ?_;exact⟨kq26,Nat.lt_succ_self _,(AH (x24+(1:Int))),rfl,rfl,by rw[hrec25];exact h⟩
  refine .a 1 ?_;refine .eK [2,5] ?_;exact⟨rfl,rfl,h⟩
 rintro _ _ ⟨rfl,rfl,h⟩;rw[HU.eq_1]at h;refine .a 2 ?_;obtain⟨b14,q15,h⟩:=ob h;refine .regM [(5,(.ptr n5 0)),(102,(AB b14))] [(n5,(.mem (Di (AC p0.f2 p1))))] ?_ ?_
 ·refine .a 4 ?_;rcases oi q15 with⟨c16,q15⟩|⟨c16,q15⟩
  ·refine .a 3 ?_;refine .cG (x:=.st [(1,(AB false)),(1,(AA ((AC p0.f2 p1).f4)))]) rfl rfl (bD (decide_eq_true c16)) (.build (qs:=[(1,(AA ((AC p0.f2 p1).f4)))]) rfl ⟨rfl,rfl,rfl,trivial⟩ Tryz.underlying55 rfl GZ EU (.cons rfl rfl rfl rfl (.cast (.fldS (.fld0 .here)) rfl) .nil) rfl) ?_;obtain⟨t17,et17,q15⟩:=ob q15;refine .callG 3 true 95 [(BA p0),(Ea (A7.mk false ((AC p0.f2 p1).f4)))] (AB t17) 100 rfl (by decide) RT rfl rfl (bD (decide_eq_true c16)) rfl rfl ⟨rfl,rfl,rfl,rfl,trivial⟩ (Ho et17) ?_;refine .a 2 ?_;cases q15;refine .nilE ⟨rfl,rfl⟩ ?_ ?_
   ·exact⟨rfl,rfl,trivial⟩
   exact(.cons 1 rfl (.nil _))
  refine .a 7 ?_;cases q15;refine .nilE ⟨rfl,rfl⟩ ?_ ?_
  ·exact⟨rfl,rfl,trivial⟩
  exact(.cons 1 rfl (.nil _))
 rcases oi h with⟨c18,h⟩|⟨c18,h⟩
 ·refine .a 4 ?_;refine .nS [4] [] ?_;refine .rK [4] ?_;cases h;exact⟨[(AA (11:Int))],⟨rfl,rfl,trivial⟩,rfl⟩
 refine .a 4 ?_;obtain⟨b19,q20,h⟩:=ob h;refine .regM [(109,(AB b19))] [] ?_ ?_
 ·refine .a 3 ?_;rcases oi q20 with⟨c21,q20⟩|⟨c21,q20⟩
  ·refine .a 1 ?_;obtain⟨t22,et22,q20⟩:=ob q20;refine .callG 2 true 105 [(Di (AC p0.f2 p1))] (AB t22) 107 rfl (by decide) Vz rfl rfl (bD c21) rfl rfl ⟨rfl,rfl,trivial⟩ (NS et22) ?_;refine .a 2 ?_;cases q20;refine .nilE ⟨rfl,rfl⟩ ?_ ?_
   ·exact⟨rfl,trivial⟩
   exact(.nil _)
  refine .a 4 ?_;cases q20;refine .nilE ⟨rfl,rfl⟩ ?_ ?_
  ·exact⟨rfl,trivial⟩
  exact(.nil _)
 rcases oi h with⟨c23,h⟩|⟨c23,h⟩
 ·refine .a 4 ?_;refine .nK [4] ?_;refine .rK [4] ?_;cases h;exact⟨[(AA (15:Int))],⟨rfl,rfl,trivial⟩,rfl⟩
 refine .a 5 ?_;refine .nK [4] ?_;refine .rK [4] ?_;cases h;exact⟨[(AA (0:Int))],⟨rfl,rfl,trivial⟩,rfl⟩
def K2 (k:Nat):Option Bool:=
 some (false)
def JK (k:Nat) (rec6:(Int→Option Bool)) (x5:Int):Option Bool:=
 rec6 (AH (x5+(1:Int)))
def Cl (k:Nat) (rec6:(Int→Option Bool)) (p0:A6) (p1:Int) (p2:Int) (x5:Int):Nat→Int→Option Bool
 | 0,_=>none
 | j+1,x9=>
   if 0≤x5∧x5<(p0.f3.length:Int)then if x9<(((AC p0.f3 x5).f1).length:Int)then Option.bind (α:=Bool) (if x5=p1 then some (decide (p2≤x9))
   else some (false)) fun b14=>
   if b14=true then some (false)
   else if 0≤x5∧x5<(p0.f3.length:Int)then if 0≤x9∧x9<(((AC p0.f3 x5).f1).length:Int)then if 0≤p1∧p1<(p0.f3.length:Int)then if 0≤p2∧p2<(((AC p0.f3 p1).f1).length:Int)then if(AC ((AC p0.f3 x5).f1) x9)=(AC ((AC p0.f3 p1).f1) p2)then some (true)
   else(Cl k rec6 p0 p1 p2 x5 j) (AH (x9+(1:Int)))
   else none
   else none
   else none
   else none
   else JK k rec6 x5
   else none
def DC (k:Nat) (p0:A6) (p1:Int) (p2:Int):Nat→Int→Option Bool
 | 0,_=>none
 | j+1,x5=>
   if x5≤p1 then Cl k (DC k p0 p1 p2 j) p0 p1 p2 x5 k (0:Int)
   else K2 k
def US (k:Nat) (p0:A6) (p1:Int) (p2:Int):Option Bool:=
 DC k p0 p1 p2 k (0:Int)
theorem OC {k:Nat} {p0:A6} {p1:Int} {p2:Int} {r:Bool} (h:US k p0 p1 p2=some r):AM Tryz.prog 59 [(BA p0),(AA p1),(AA p2)] (AB r):=by
 rw[US.eq_1]at h;refine AM.intro (res:=[.tmp 6]) Tryz.func59 rfl rfl rfl (Nat.le_of_ble_eq_true rfl) ?_;refine .sr ?_;refine .box rfl 3 rfl (by decide) rfl rfl rfl fun n4=>?_;refine .a 1 ?_;refine .nK [1,2,3] ?_;refine .seq_mid (fun ρ H=>ρ=[]∧H=[]∧K2 k=some r) ?_ ?_
 ·refine .a 5 ?_;refine .wK [1,2,3,7] ?_;refine .loop (fun kq ρ H=>∃ (x5:Int),ρ=[(1,(AA p1)),(2,(AA p2)),(3,(.ptr n4 0)),(7,(AA x5))]∧H=[(n4,(.mem (BA p0)))]∧DC k p0 p1 p2 kq x5=some r) k ⟨(0:Int),rfl,rfl,h⟩ ?_;rintro kq7 _ _ ⟨x5,rfl,rfl,h⟩
  cases kq7 with
  | zero=>rw[DC.eq_1]at h;cases h
  | succ kq7=>
  rw[DC.eq_2]at h;generalize hrec6:DC k p0 p1 p2 kq7=rec6 at h;refine .a 7 ?_;rcases oi h with⟨c8,h⟩|⟨c8,h⟩
  ·refine .a 1 ?_;refine .sK [1,2,3,7] ?_;refine .seq_mid (fun ρ H=>ρ=[(1,(AA p1)),(2,(AA p2)),(3,(.ptr n4 0)),(7,(AA x5))]∧H=[(n4,(.mem (BA p0)))]∧JK k rec6 x5=some r) ?_ ?_
   ·refine .a 6 ?_;refine .wK [1,2,3,7,8] ?_;refine .loop (fun kq ρ H=>∃ (x9:Int),ρ=[(1,(AA p1)),(2,(AA p2)),(3,(.ptr n4 0)),(7,(AA x5)),(8,(AA x9))]∧H=[(n4,(.mem (BA p0)))]∧Cl k rec6 p0 p1 p2 x5 kq x9=some r) k ⟨(0:Int),rfl,rfl,h⟩ ?_;rintro kq11 _ _ ⟨x9,rfl,rfl,h⟩
    cases kq11 with
    | zero=>rw[Cl.eq_1]at h;cases h
    | succ kq11=>
    rw[Cl.eq_2]at h;generalize hrec10:Cl k rec6 p0 p1 p2 x5 kq11=rec10 at h;refine .a 7 ?_;obtain⟨g12,h⟩:=AD h;refine .a 1 ?_;refine .c (.fldRp rfl rfl Tryz.underlying61 rfl G3 (.cast (.fldS (.fld0 .here)) rfl)) ?_;refine .a 4 ?_;rcases oi h with⟨c13,h⟩|⟨c13,h⟩
    ·refine .a 6 ?_;obtain⟨b14,q15,h⟩:=ob h;refine .regM [(1,(AA p1)),(2,(AA p2)),(3,(.ptr n4 0)),(7,(AA x5)),(8,(AA x9)),(32,(AB b14))] [(n4,(.mem (BA p0)))] ?_ ?_
     ·refine .a 4 ?_;rcases oi q15 with⟨c16,q15⟩|⟨c16,q15⟩
      ·refine .a 4 ?_;cases q15;refine .nilE ⟨rfl,rfl⟩ ?_ ?_
       ·exact⟨rfl,rfl,rfl,rfl,rfl,rfl,trivial⟩
       exact(.refl _)
      refine .a 4 ?_;cases q15;refine .nilE ⟨rfl,rfl⟩ ?_ ?_
      ·exact⟨rfl,rfl,rfl,rfl,rfl,rfl,trivial⟩
      exact(.refl _)
     rcases oi h with⟨c17,h⟩|⟨c17,h⟩
     ·refine .a 4 ?_;refine .nS [6] [] ?_;refine .rK [6] ?_;have hr:=Option.some.inj h;subst hr;exact⟨[(AB false)],⟨rfl,rfl,trivial⟩,rfl⟩
     refine .a 3 ?_;refine .regQ (by rfl) (by decide+kernel) ?_;refine .a 3 ?_;obtain⟨g18,h⟩:=AD h;refine .a 1 ?_;refine .c (.fldRp rfl rfl Tryz.underlying61 rfl G3 (.cast (.fldS (.fld0 .here)) rfl)) ?_;refine .a 2 ?_;obtain⟨g19,h⟩:=AD h;refine .a 5 ?_;obtain⟨g20,h⟩:=AD h;refine .a 1 ?_;refine .c (.fldRp rfl rfl Tryz.underlying61 rfl G3 (.cast (.fldS (.fld0 .here)) rfl)) ?_;refine .a 2 ?_;obtain⟨g21,h⟩:=AD h;refine .a 4 ?_;rcases oi h with⟨c22,h⟩|⟨c22,h⟩
     ·refine .a 4 ?_;refine .nS [6] [] ?_;refine .rK [6] ?_;have hr:=Option.some.inj h;subst hr;exact⟨[(AB true)],⟨rfl,rfl,trivial⟩,rfl⟩
     refine .a 6 ?_;refine .nK [1,2,3,7,8] ?_;exact⟨kq11,Nat.lt_succ_self _,(AH (x9+(1:Int))),rfl,rfl,by rw[hrec10];exact h⟩
    refine .a 1 ?_;refine .eK [1,2,3,7] ?_;exact⟨rfl,rfl,h⟩
   rintro _ _ ⟨rfl,rfl,h⟩;rw[JK.eq_1]at h;refine .a 4 ?_;refine .nK [1,2,3,7] ?_;exact⟨kq7,Nat.lt_succ_self _,(AH (x5+(1:Int))),rfl,rfl,by rw[hrec6];exact h⟩
  refine .a 1 ?_;refine .eH [] (H':=[]) (.nil _) ?_;exact⟨rfl,rfl,h⟩
 rintro _ _ ⟨rfl,rfl,h⟩;rw[K2.eq_1]at h;refine .a 3 ?_;refine .nK [6] ?_;refine .rK [6] ?_;have hr:=Option.some.inj h;subst hr;exact⟨[(AB false)],⟨rfl,rfl,trivial⟩,rfl⟩
def Ki (k:Nat):Option Int:=
 some ((0:Int))
def Dp (k:Nat) (p0:A6) (p1:Int):Nat→Int→Option Int
 | 0,_=>none
 | j+1,x12=>
   if x12<(((AC p0.f3 p1).f1).length:Int)then if 0≤x12∧x12<(((AC p0.f3 p1).f1).length:Int)then(Sk k p0 (A7.mk false (AC ((AC p0.f3 p1).f1) x12))).bind fun t17=>
   if(!t17)=true then some ((11:Int))
   else(US k p0 p1 x12).bind fun t19=>
   if t19=true then some ((9:Int))
   else(Dp k p0 p1 j) (AH (x12+(1:Int)))
   else none
   else Ki k
def UV (k:Nat) (p0:A6) (p1:Int):Option Int:=
 if 0≤p1∧p1<(p0.f3.length:Int)then Option.bind (α:=Bool) (if((AC p0.f3 p1).f0)<(1:Int)then some (true)
 else if(3:Int)<((AC p0.f3 p1).f0)then some (true)
 else if(((AC p0.f3 p1).f1).length:Int)=(0:Int)then some (true)
 else some (decide ((60:Int)≤p1))) fun b6=>
 if b6=true then some ((1:Int))
 else Dp k p0 p1 k (0:Int)
 else none
theorem NV {k:Nat} {p0:A6} {p1:Int} {r:Int} (h:UV k p0 p1=some r):AM Tryz.prog 28 [(BA p0),(AA p1)] (AA r):=by
 rw[UV.eq_1]at h;refine AM.intro (res:=[.tmp 4]) Tryz.func28 rfl rfl rfl (Nat.le_of_ble_eq_true rfl) ?_;refine .sr ?_;refine .box rfl 2 rfl (by decide) rfl rfl rfl fun n3=>?_;refine .a 7 ?_;obtain⟨g4,h⟩:=AD h;refine .a 2 ?_;refine .alloc rfl 5 rfl (by decide) rfl QI Lr fun n5=>?_;refine .store 0 rfl rfl rfl rfl rfl rfl (.cast .here rfl) rfl rfl LC rfl ?_;refine .nS [1,2,5] [1,0] ?_;refine .a 2 ?_;obtain⟨b6,q7,h⟩:=ob h;refine .regM [(1,(AA p1)),(2,(.ptr n3 0)),(5,(.ptr n5 0)),(29,(AB b6))] [(n3,(.mem (BA p0))),(n5,(.mem (IV (AC p0.f3 p1))))] ?_ ?_
 ·refine .a 4 ?_;rcases oi q7 with⟨c8,q7⟩|⟨c8,q7⟩
  ·refine .a 14 ?_;cases q7;refine .nilE ⟨rfl,rfl⟩ ?_ ?_
   ·exact⟨rfl,rfl,rfl,rfl,trivial⟩
   exact(.refl _)
  refine .a 5 ?_;rcases oi q7 with⟨c9,q7⟩|⟨c9,q7⟩
  ·refine .a 9 ?_;cases q7;refine .nilE ⟨rfl,rfl⟩ ?_ ?_
   ·exact⟨rfl,rfl,rfl,rfl,trivial⟩
   exact(.refl _)
  refine .a 6 ?_;rcases oi q7 with⟨c10,q7⟩|⟨c10,q7⟩
  ·refine .a 3 ?_;cases q7;refine .nilE ⟨rfl,rfl⟩ ?_ ?_
   ·exact⟨rfl,rfl,rfl,rfl,trivial⟩
   exact(.refl _)
  refine .a 3 ?_;cases q7;refine .nilE ⟨rfl,rfl⟩ ?_ ?_
  ·exact⟨rfl,rfl,rfl,rfl,trivial⟩
  exact(.refl _)
 rcases oi h with⟨c11,h⟩|⟨c11,h⟩
 ·refine .a 4 ?_;refine .nS [4] [] ?_;refine .rK [4] ?_;cases h;exact⟨[(AA (1:Int))],⟨rfl,rfl,trivial⟩,rfl⟩
 refine .a 1 ?_;refine .sK [1,2,5] ?_;refine .seq_mid (fun ρ H=>ρ=[]∧H=[]∧Ki k=some r) ?_ ?_
 ·refine .a 5 ?_;refine .wK [1,2,5,6] ?_;refine .loop (fun kq ρ H=>∃ (x12:Int),ρ=[(1,(AA p1)),(2,(.ptr n3 0)),(5,(.ptr n5 0)),(6,(AA x12))]∧H=[(n3,(.mem (BA p0))),(n5,(.mem (IV (AC p0.f3 p1))))]∧Dp k p0 p1 kq x12=some r) k ⟨(0:Int),rfl,rfl,h⟩ ?_;rintro kq14 _ _ ⟨x12,rfl,rfl,h⟩
  cases kq14 with
  | zero=>rw[Dp.eq_1]at h;cases h
  | succ kq14=>
  rw[Dp.eq_2]at h;generalize hrec13:Dp k p0 p1 kq14=rec13 at h;refine .a 9 ?_;rcases oi h with⟨c15,h⟩|⟨c15,h⟩
  ·refine .a 6 ?_;refine .regQ (by rfl) (by decide+kernel) ?_;refine .a 4 ?_;obtain⟨g16,h⟩:=AD h;refine .a 2 ?_;refine .c (x:=(.st [(1,(AB false)),(1,(AA (AC ((AC p0.f3 p1).f1) x12)))])) (.build (qs:=[(1,(AA (AC ((AC p0.f3 p1).f1) x12)))]) rfl ⟨rfl,rfl,rfl,trivial⟩ Tryz.underlying55 rfl GZ EU (.cons rfl rfl rfl rfl (.cast (.fldS (.fld0 .here)) rfl) .nil) rfl) ?_;obtain⟨t17,et17,h⟩:=ob h;refine .c (.call (args:=[(BA p0),(Ea (A7.mk false (AC ((AC p0.f3 p1).f1) x12)))]) rfl rfl RT ⟨rfl,rfl,rfl,rfl,trivial⟩ rfl (Ho et17)) ?_;refine .a 2 ?_;rcases oi h with⟨c18,h⟩|⟨c18,h⟩
   ·refine .a 4 ?_;refine .nS [4] [] ?_;refine .rK [4] ?_;cases h;exact⟨[(AA (11:Int))],⟨rfl,rfl,trivial⟩,rfl⟩
   refine .a 7 ?_;obtain⟨t19,et19,h⟩:=ob h;refine .callS [(BA p0),(AA p1),(AA x12)] (AB t19) 49 rfl (by decide) Vh rfl rfl rfl ⟨rfl,rfl,rfl,rfl,rfl,rfl,trivial⟩ (OC et19) ?_;refine .a 1 ?_;rcases oi h with⟨c20,h⟩|⟨c20,h⟩
   ·refine .a 4 ?_;refine .nS [4] [] ?_;refine .rK [4] ?_;cases h;exact⟨[(AA (9:Int))],⟨rfl,rfl,trivial⟩,rfl⟩
   refine .a 6 ?_;refine .nK [1,2,5,6] ?_;exact⟨kq14,Nat.lt_succ_self _,(AH (x12+(1:Int))),rfl,rfl,by rw[hrec13];exact h⟩
  refine .a 1 ?_;refine .eH [] (H':=[]) (.nil _) ?_;exact⟨rfl,rfl,h⟩
 rintro _ _ ⟨rfl,rfl,h⟩;rw[Ki.eq_1]at h;refine .a 3 ?_;refine .nK [4] ?_;refine .rK [4] ?_;cases h;exact⟨[(AA (0:Int))],⟨rfl,rfl,trivial⟩,rfl⟩
def Jn (k:Nat) (p0:A6):Option (Int×Int×Int):=
 Option.bind (α:=Bool) (if p0.f4<(0:Int)then some (true)
 else some (decide ((p0.f1.length:Int)≤p0.f4))) fun b7=>
 if b7=true then some ((11:Int),(5:Int),(0:Int))
 else some ((0:Int),(0:Int),(0:Int))
def EP (k:Nat) (p0:A6):Nat→Int→Option (Int×Int×Int)
 | 0,_=>none
 | j+1,x11=>
   if x11<(p0.f3.length:Int)then(UV k p0 x11).bind fun t15=>
   if t15≠(0:Int)then some (t15,(4:Int),x11)
   else(EP k p0 j) (AH (x11+(1:Int)))
   else Jn k p0
def Jp (k:Nat) (p0:A6):Option (Int×Int×Int):=
 EP k p0 k (0:Int)
def FF (k:Nat) (p0:A6):Nat→Int→Option (Int×Int×Int)
 | 0,_=>none
 | j+1,x17=>
   if x17<(p0.f2.length:Int)then(UQ k p0 x17).bind fun t21=>
   if t21≠(0:Int)then some (t21,(3:Int),x17)
   else(FF k p0 j) (AH (x17+(1:Int)))
   else Jp k p0
def KO (k:Nat) (p0:A6):Option (Int×Int×Int):=
 if(200:Int)<(p0.f2.length:Int)then some ((6:Int),(3:Int),(p0.f2.length:Int))
 else FF k p0 k (0:Int)
def Ds (k:Nat) (p0:A6):Nat→Int→Option (Int×Int×Int)
 | 0,_=>none
 | j+1,x23=>
   if x23<(p0.f1.length:Int)then(S8 k p0 x23).bind fun t27=>
   if t27≠(0:Int)then some (t27,(2:Int),x23)
   else(Ds k p0 j) (AH (x23+(1:Int)))
   else KO k p0
def F8 (k:Nat) (p0:A6):Option (Int×Int×Int):=
 (UZ k p0.f0).bind fun t3=>
 if t3.2≠(0:Int)then some (t3.2,(1:Int),t3.1)
 else if(300:Int)<(p0.f1.length:Int)then some ((6:Int),(2:Int),(p0.f1.length:Int))
 else Ds k p0 k (0:Int)
theorem Pv {k:Nat} {p0:A6} {r:(Int×Int×Int)} (h:F8 k p0=some r):AM Tryz.prog 8 [(BA p0)] (.tup [(AA r.1),(AA r.2.1),(AA r.2.2)]):=by
 rw[F8.eq_1]at h;refine AM.intro (res:=[.tmp 2,.tmp 3,.tmp 4]) Tryz.func8 rfl rfl rfl (Nat.le_of_ble_eq_true rfl) ?_;refine .sr ?_;refine .box rfl 1 rfl (by decide) rfl rfl rfl fun n2=>?_;refine .a 9 ?_;obtain⟨t3,et3,h⟩:=ob h;refine .callS [(.fz 3 (p0.f0.map DT))] (.tup [(AA t3.1),(AA t3.2)]) 16 rfl (by decide) VR rfl rfl rfl ⟨rfl,rfl,trivial⟩ (Ou et3) ?_;refine .a 11 ?_;rcases oi h with⟨c4,h⟩|⟨c4,h⟩
 ·refine .a 8 ?_;refine .nS [2,3,4] [] ?_;refine .rK [2,3,4] ?_;cases h;exact⟨[(AA t3.2),(AA (1:Int)),(AA t3.1)],⟨rfl,rfl,rfl,rfl,rfl,rfl,trivial⟩,rfl⟩
 refine .a 10 ?_;rcases oi h with⟨c5,h⟩|⟨c5,h⟩
 ·refine .a 2 ?_;refine .regQ (by rfl) (by decide+kernel) ?_;refine .a 6 ?_;refine .nK [2,3,4] ?_;refine .rH [2,3,4] (H':=[]) (.nil _) ?_;cases h;exact⟨[(AA (6:Int)),(AA (2:Int)),(AA (p0.f1.length:Int))],⟨rfl,rfl,rfl,rfl,rfl,rfl,trivial⟩,rfl⟩
 refine .a 1 ?_;refine .sK [1] ?_;refine .seq_mid (fun ρ H=>ρ=[(1,(.ptr n2 0))]∧H=[(n2,(.mem (BA p0)))]∧KO k p0=some r) ?_ ?_
 ·refine .a 5 ?_;refine .wK [1,7] ?_;refine .loop (fun kq ρ H=>∃ (x23:Int),ρ=[(1,(.ptr n2 0)),(7,(AA x23))]∧H=[(n2,(.mem (BA p0)))]∧Ds k p0 kq x23=some r) k ⟨(0:Int),rfl,rfl,h⟩ ?_;rintro kq25 _ _ ⟨x23,rfl,rfl,h⟩
  cases kq25 with
  | zero=>rw[Ds.eq_1]at h;cases h
  | succ kq25=>
  rw[Ds.eq_2]at h;generalize hrec24:Ds k p0 kq25=rec24 at h;refine .a 9 ?_;rcases oi h with⟨c26,h⟩|⟨c26,h⟩
  ·refine .a 8 ?_;obtain⟨t27,et27,h⟩:=ob h;refine .callS [(BA p0),(AA x23)] (AA t27) 39 rfl (by decide) VF rfl rfl rfl ⟨rfl,rfl,rfl,rfl,trivial⟩ (Ob et27) ?_;refine .a 7 ?_;rcases oi h with⟨c28,h⟩|⟨c28,h⟩
   ·refine .a 8 ?_;refine .nS [2,3,4] [] ?_;refine .rK [2,3,4] ?_;have hr:=Option.some.inj h;subst hr;exact⟨[(AA t27),(AA (2:Int)),(AA x23)],⟨rfl,rfl,rfl,rfl,rfl,rfl,trivial⟩,rfl⟩
   refine .a 6 ?_;refine .nK [1,7] ?_;exact⟨kq25,Nat.lt_succ_self _,(AH (x23+(1:Int))),rfl,rfl,by rw[hrec24];exact h⟩
  refine .a 1 ?_;refine .eK [1] ?_;exact⟨rfl,rfl,h⟩
 rintro _ _ ⟨rfl,rfl,h⟩;rw[KO.eq_1]at h;refine .a 8 ?_;rcases oi h with⟨c6,h⟩|⟨c6,h⟩
 ·refine .a 2 ?_;refine .regQ (by rfl) (by decide+kernel) ?_;refine .a 6 ?_;refine .nK [2,3,4] ?_;refine .rH [2,3,4] (H':=[]) (.nil _) ?_;cases h;exact⟨[(AA (6:Int)),(AA (3:Int)),(AA (p0.f2.length:Int))],⟨rfl,rfl,rfl,rfl,rfl,rfl,trivial⟩,rfl⟩
 refine .a 1 ?_;refine .sK [1] ?_;refine .seq_mid (fun ρ H=>ρ=[(1,(.ptr n2 0))]∧H=[(n2,(.mem (BA p0)))]∧Jp k p0=some r) ?_ ?_
 ·refine .a 5 ?_;refine .wK [1,9] ?_;refine .loop (fun kq ρ H=>∃ (x17:Int),ρ=[(1,(.ptr n2 0)),(9,(AA x17))]∧H=[(n2,(.mem (BA p0)))]∧FF k p0 kq x17=some r) k ⟨(0:Int),rfl,rfl,h⟩ ?_;rintro kq19 _ _ ⟨x17,rfl,rfl,h⟩
  cases kq19 with
  | zero=>rw[FF.eq_1]at h;cases h
  | succ kq19=>
  rw[FF.eq_2]at h;generalize hrec18:FF k p0 kq19=rec18 at h;refine .a 9 ?_;rcases oi h with⟨c20,h⟩|⟨c20,h⟩
  ·refine .a 8 ?_;obtain⟨t21,et21,h⟩:=ob h;refine .callS [(BA p0),(AA x17)] (AA t21) 60 rfl (by decide) VU rfl rfl rfl ⟨rfl,rfl,rfl,rfl,trivial⟩ (N0 et21) ?_;refine .a 7 ?_;rcases oi h with⟨c22,h⟩|⟨c22,h⟩
   ·refine .a 8 ?_;refine .nS [2,3,4] [] ?_;refine .rK [2,3,4] ?_;have hr:=Option.some.inj h;subst hr;exact⟨[(AA t21),(AA (3:Int)),(AA x17)],⟨rfl,rfl,rfl,rfl,rfl,rfl,trivial⟩,rfl⟩
   refine .a 6 ?_;refine .nK [1,9] ?_;exact⟨kq19,Nat.lt_succ_self _,(AH (x17+(1:Int))),rfl,rfl,by rw[hrec18];exact h⟩
  refine .a 1 ?_;refine .eK [1] ?_;exact⟨rfl,rfl,h⟩
 rintro _ _ ⟨rfl,rfl,h⟩;rw[Jp.eq_1]at h;refine .seq_mid (fun ρ H=>ρ=[(1,(.ptr n2 0))]∧H=[(n2,(.mem (BA p0)))]∧Jn k p0=some r) ?_ ?_
 ·refine .a 5 ?_;refine .wK [1,11] ?_;refine .loop (fun kq ρ H=>∃ (x11:Int),ρ=[(1,(.ptr n2 0)),(11,(AA x11))]∧H=[(n2,(.mem (BA p0)))]∧EP k p0 kq x11=some r) k ⟨(0:Int),rfl,rfl,h⟩ ?_;rintro kq13 _ _ ⟨x11,rfl,rfl,h⟩
  cases kq13 with
  | zero=>rw[EP.eq_1]at h;cases h
  | succ kq13=>
  rw[EP.eq_2]at h;generalize hrec12:EP k p0 kq13=rec12 at h;refine .a 9 ?_;rcases oi h with⟨c14,h⟩|⟨c14,h⟩
  ·refine .a 8 ?_;obtain⟨t15,et15,h⟩:=ob h;refine .callS [(BA p0),(AA x11)] (AA t15) 74 rfl (by decide) Vg rfl rfl rfl ⟨rfl,rfl,rfl,rfl,trivial⟩ (NV et15) ?_;refine .a 7 ?_;rcases oi h with⟨c16,h⟩|⟨c16,h⟩
   ·refine .a 8 ?_;refine .nS [2,3,4] [] ?_;refine .rK [2,3,4] ?_;have hr:=Option.some.inj h;subst hr;exact⟨[(AA t15),(AA (4:Int)),(AA x11)],⟨rfl,rfl,rfl,rfl,rfl,rfl,trivial⟩,rfl⟩
   refine .a 6 ?_;refine .nK [1,11] ?_;exact⟨kq13,Nat.lt_succ_self _,(AH (x11+(1:Int))),rfl,rfl,by rw[hrec12];exact h⟩
  refine .a 1 ?_;refine .eK [1] ?_;exact⟨rfl,rfl,h⟩
 rintro _ _ ⟨rfl,rfl,h⟩;rw[Jn.eq_1]at h;refine .a 2 ?_;obtain⟨b7,q8,h⟩:=ob h;refine .regM [(89,(AB b7))] [] ?_ ?_
 ·refine .a 4 ?_;rcases oi q8 with⟨c9,q8⟩|⟨c9,q8⟩
  ·refine .a 7 ?_;cases q8;refine .nilE ⟨rfl,rfl⟩ ?_ ?_
   ·exact⟨rfl,trivial⟩
   exact(.nil _)
  refine .a 7 ?_;cases q8;refine .nilE ⟨rfl,rfl⟩ ?_ ?_
  ·exact⟨rfl,trivial⟩
  exact(.nil _)
 rcases oi h with⟨c10,h⟩|⟨c10,h⟩
 ·refine .a 6 ?_;refine .nK [2,3,4] ?_;refine .rK [2,3,4] ?_;cases h;exact⟨[(AA (11:Int)),(AA (5:Int)),(AA (0:Int))],⟨rfl,rfl,rfl,rfl,rfl,rfl,trivial⟩,rfl⟩
 refine .a 7 ?_;refine .nK [2,3,4] ?_;refine .rK [2,3,4] ?_;cases h;exact⟨[(AA (0:Int)),(AA (0:Int)),(AA (0:Int))],⟨rfl,rfl,rfl,rfl,rfl,rfl,trivial⟩,rfl⟩
def LD (k:Nat):Option Bool:=
 some (true)
def Dc (k:Nat) (p0:(List B7)) (p1:(List B7)):Nat→Int→Option Bool
 | 0,_=>none
 | j+1,x4=>
   if x4<(p0.length:Int)then if 0≤x4∧x4<(p0.length:Int)then if 0≤x4∧x4<(p1.length:Int)then if(!(decide ((AC p0 x4)=(AC p1 x4))))=true then some (false)
   else(Dc k p0 p1 j) (AH (x4+(1:Int)))
   else none
   else none
   else LD k
def Rn (k:Nat) (p0:(List B7)) (p1:(List B7)):Option Bool:=
 if(p0.length:Int)≠(p1.length:Int)then some (false)
 else Dc k p0 p1 k (0:Int)
theorem Nx {k:Nat} {p0:(List B7)} {p1:(List B7)} {r:Bool} (h:Rn k p0 p1=some r):AM Tryz.prog 29 [(.fz 3 (p0.map DT)),(.fz 3 (p1.map DT))] (AB r):=by
 rw[Rn.eq_1]at h;refine AM.intro (res:=[.tmp 4]) Tryz.func29 rfl rfl rfl (Nat.le_of_ble_eq_true rfl) ?_;refine .a 13 ?_;rcases oi h with⟨c3,h⟩|⟨c3,h⟩
 ·refine .a 4 ?_;refine .nK [4] ?_;refine .rK [4] ?_;have hr:=Option.some.inj h;subst hr;exact⟨[(AB false)],⟨rfl,rfl,trivial⟩,rfl⟩
 refine .a 1 ?_;refine .sK [0,1] ?_;refine .seq_mid (fun ρ H=>ρ=[]∧H=[]∧LD k=some r) ?_ ?_
 ·refine .a 7 ?_;refine .wK [0,1,12,13] ?_;refine .loop (fun kq ρ H=>∃ (x4:Int),ρ=[(0,(.fz 3 (p0.map DT))),(1,(.fz 3 (p1.map DT))),(12,(AA (p0.length:Int))),(13,(AA x4))]∧H=[]∧Dc k p0 p1 kq x4=some r) k ⟨(0:Int),rfl,rfl,h⟩ ?_;rintro kq6 _ _ ⟨x4,rfl,rfl,h⟩
  cases kq6 with
  | zero=>rw[Dc.eq_1]at h;cases h
  | succ kq6=>
  rw[Dc.eq_2]at h;generalize hrec5:Dc k p0 p1 kq6=rec5 at h;refine .a 5 ?_;rcases oi h with⟨c7,h⟩|⟨c7,h⟩
  ·refine .a 10 ?_;refine .regQ (by rfl) (by decide+kernel) ?_;refine .a 2 ?_;obtain⟨g8,h⟩:=AD h;refine .a 4 ?_;obtain⟨g9,h⟩:=AD h;refine .a 2 ?_;refine .c (x:=AB (!(decide ((AC p0 x4)=(AC p1 x4))))) (.neS rfl rfl rfl Uw (Sx (AC p0 x4) (AC p1 x4)) (by decide)) ?_;refine .a 1 ?_;rcases oi h with⟨c10,h⟩|⟨c10,h⟩
   ·refine .a 4 ?_;refine .nK [4] ?_;refine .rK [4] ?_;have hr:=Option.some.inj h;subst hr;exact⟨[(AB false)],⟨rfl,rfl,trivial⟩,rfl⟩
   refine .a 5 ?_;refine .nK [0,1,12,13] ?_;exact⟨kq6,Nat.lt_succ_self _,(AH (x4+(1:Int))),rfl,rfl,by rw[hrec5];exact h⟩
  refine .a 1 ?_;refine .eK [] ?_;exact⟨rfl,rfl,h⟩
 rintro _ _ ⟨rfl,rfl,h⟩;rw[LD.eq_1]at h;refine .a 3 ?_;refine .nK [4] ?_;refine .rK [4] ?_;have hr:=Option.some.inj h;subst hr;exact⟨[(AB true)],⟨rfl,rfl,trivial⟩,rfl⟩
def Kp (k:Nat):Option Bool:=
 some (true)
def Dg (k:Nat) (p0:(List ByteArray)) (p1:(List ByteArray)):Nat→Int→Option Bool
 | 0,_=>none
 | j+1,x4=>
   if x4<(p0.length:Int)then if 0≤x4∧x4<(p0.length:Int)then if 0≤x4∧x4<(p1.length:Int)then if(AC p0 x4)≠(AC p1 x4)then some (false)
   else(Dg k p0 p1 j) (AH (x4+(1:Int)))
   else none
   else none
   else Kp k
def Ru (k:Nat) (p0:(List ByteArray)) (p1:(List ByteArray)):Option Bool:=
 if(p0.length:Int)≠(p1.length:Int)then some (false)
 else Dg k p0 p1 k (0:Int)
theorem PH {k:Nat} {p0:(List ByteArray)} {p1:(List ByteArray)} {r:Bool} (h:Ru k p0 p1=some r):AM Tryz.prog 30 [(.fz 1 (p0.map AI)),(.fz 1 (p1.map AI))] (AB r):=by
 rw[Ru.eq_1]at h;refine AM.intro (res:=[.tmp 4]) Tryz.func30 rfl rfl rfl (Nat.le_of_ble_eq_true rfl) ?_;refine .a 13 ?_;rcases oi h with⟨c3,h⟩|⟨c3,h⟩
 ·refine .a 4 ?_;refine .nK [4] ?_;refine .rK [4] ?_;have hr:=Option.some.inj h;subst hr;exact⟨[(AB false)],⟨rfl,rfl,trivial⟩,rfl⟩
 refine .a 1 ?_;refine .sK [0,1] ?_;refine .seq_mid (fun ρ H=>ρ=[]∧H=[]∧Kp k=some r) ?_ ?_
 ·refine .a 7 ?_;refine .wK [0,1,12,13] ?_;refine .loop (fun kq ρ H=>∃ (x4:Int),ρ=[(0,(.fz 1 (p0.map AI))),(1,(.fz 1 (p1.map AI))),(12,(AA (p0.length:Int))),(13,(AA x4))]∧H=[]∧Dg k p0 p1 kq x4=some r) k ⟨(0:Int),rfl,rfl,h⟩ ?_;rintro kq6 _ _ ⟨x4,rfl,rfl,h⟩
  cases kq6 with
  | zero=>rw[Dg.eq_1]at h;cases h
  | succ kq6=>
  rw[Dg.eq_2]at h;generalize hrec5:Dg k p0 p1 kq6=rec5 at h;refine .a 5 ?_;rcases oi h with⟨c7,h⟩|⟨c7,h⟩
  ·refine .a 10 ?_;refine .regQ (by rfl) (by decide+kernel) ?_;refine .a 2 ?_;obtain⟨g8,h⟩:=AD h;refine .a 4 ?_;obtain⟨g9,h⟩:=AD h;refine .a 4 ?_;rcases oi h with⟨c10,h⟩|⟨c10,h⟩
   ·refine .a 4 ?_;refine .nK [4] ?_;refine .rK [4] ?_;have hr:=Option.some.inj h;subst hr;exact⟨[(AB false)],⟨rfl,rfl,trivial⟩,rfl⟩
   refine .a 5 ?_;refine .nK [0,1,12,13] ?_;exact⟨kq6,Nat.lt_succ_self _,(AH (x4+(1:Int))),rfl,rfl,by rw[hrec5];exact h⟩
  refine .a 1 ?_;refine .eK [] ?_;exact⟨rfl,rfl,h⟩
 rintro _ _ ⟨rfl,rfl,h⟩;rw[Kp.eq_1]at h;refine .a 3 ?_;refine .nK [4] ?_;refine .rK [4] ?_;have hr:=Option.some.inj h;subst hr;exact⟨[(AB true)],⟨rfl,rfl,trivial⟩,rfl⟩
def Ks (k:Nat):Option Bool:=
 some (true)
def Df (k:Nat) (p0:(List A7)) (p1:(List A7)):Nat→Int→Option Bool
 | 0,_=>none
 | j+1,x4=>
   if x4<(p0.length:Int)then if 0≤x4∧x4<(p0.length:Int)then if 0≤x4∧x4<(p1.length:Int)then if(!(decide ((AC p0 x4)=(AC p1 x4))))=true then some (false)
   else(Df k p0 p1 j) (AH (x4+(1:Int)))
   else none
   else none
   else Ks k
def SI (k:Nat) (p0:(List A7)) (p1:(List A7)):Option Bool:=
 if(p0.length:Int)≠(p1.length:Int)then some (false)
 else Df k p0 p1 k (0:Int)
theorem N4 {k:Nat} {p0:(List A7)} {p1:(List A7)} {r:Bool} (h:SI k p0 p1=some r):AM Tryz.prog 60 [(.fz 2 (p0.map Ea)),(.fz 2 (p1.map Ea))] (AB r):=by
 rw[SI.eq_1]at h;refine AM.intro (res:=[.tmp 4]) Tryz.func60 rfl rfl rfl (Nat.le_of_ble_eq_true rfl) ?_;refine .a 13 ?_;rcases oi h with⟨c3,h⟩|⟨c3,h⟩
 ·refine .a 4 ?_;refine .nK [4] ?_;refine .rK [4] ?_;have hr:=Option.some.inj h;subst hr;exact⟨[(AB false)],⟨rfl,rfl,trivial⟩,rfl⟩
 refine .a 1 ?_;refine .sK [0,1] ?_;refine .seq_mid (fun ρ H=>ρ=[]∧H=[]∧Ks k=some r) ?_ ?_
 ·refine .a 7 ?_;refine .wK [0,1,12,13] ?_;refine .loop (fun kq ρ H=>∃ (x4:Int),ρ=[(0,(.fz 2 (p0.map Ea))),(1,(.fz 2 (p1.map Ea))),(12,(AA (p0.length:Int))),(13,(AA x4))]∧H=[]∧Df k p0 p1 kq x4=some r) k ⟨(0:Int),rfl,rfl,h⟩ ?_;rintro kq6 _ _ ⟨x4,rfl,rfl,h⟩
  cases kq6 with
  | zero=>rw[Df.eq_1]at h;cases h
  | succ kq6=>
  rw[Df.eq_2]at h;generalize hrec5:Df k p0 p1 kq6=rec5 at h;refine .a 5 ?_;rcases oi h with⟨c7,h⟩|⟨c7,h⟩
  ·refine .a 10 ?_;refine .regQ (by rfl) (by decide+kernel) ?_;refine .a 2 ?_;obtain⟨g8,h⟩:=AD h;refine .a 4 ?_;obtain⟨g9,h⟩:=AD h;refine .a 2 ?_;refine .c (x:=AB (!(decide ((AC p0 x4)=(AC p1 x4))))) (.neS rfl rfl rfl S4 (Qd (AC p0 x4) (AC p1 x4)) (by decide)) ?_;refine .a 1 ?_;rcases oi h with⟨c10,h⟩|⟨c10,h⟩
   ·refine .a 4 ?_;refine .nK [4] ?_;refine .rK [4] ?_;have hr:=Option.some.inj h;subst hr;exact⟨[(AB false)],⟨rfl,rfl,trivial⟩,rfl⟩
   refine .a 5 ?_;refine .nK [0,1,12,13] ?_;exact⟨kq6,Nat.lt_succ_self _,(AH (x4+(1:Int))),rfl,rfl,by rw[hrec5];exact h⟩
  refine .a 1 ?_;refine .eK [] ?_;exact⟨rfl,rfl,h⟩
 rintro _ _ ⟨rfl,rfl,h⟩;rw[Ks.eq_1]at h;refine .a 3 ?_;refine .nK [4] ?_;refine .rK [4] ?_;have hr:=Option.some.inj h;subst hr;exact⟨[(AB true)],⟨rfl,rfl,trivial⟩,rfl⟩
def KY (k:Nat):Option Bool:=
 some (true)
def DX (k:Nat) (p0:(List Int)) (p1:(List Int)):Nat→Int→Option Bool
 | 0,_=>none
 | j+1,x4=>
   if x4<(p0.length:Int)then if 0≤x4∧x4<(p0.length:Int)then if 0≤x4∧x4<(p1.length:Int)then if(AC p0 x4)≠(AC p1 x4)then some (false)
   else(DX k p0 p1 j) (AH (x4+(1:Int)))
   else none
   else none
   else KY k
def Qq (k:Nat) (p0:(List Int)) (p1:(List Int)):Option Bool:=
 if(p0.length:Int)≠(p1.length:Int)then some (false)
 else DX k p0 p1 k (0:Int)
theorem KR {k:Nat} {p0:(List Int)} {p1:(List Int)} {r:Bool} (h:Qq k p0 p1=some r):AM Tryz.prog 61 [(.fz 1 (p0.map AA)),(.fz 1 (p1.map AA))] (AB r):=by
 rw[Qq.eq_1]at h;refine AM.intro (res:=[.tmp 4]) Tryz.func61 rfl rfl rfl (Nat.le_of_ble_eq_true rfl) ?_;refine .a 13 ?_;rcases oi h with⟨c3,h⟩|⟨c3,h⟩
 ·refine .a 4 ?_;refine .nK [4] ?_;refine .rK [4] ?_;have hr:=Option.some.inj h;subst hr;exact⟨[(AB false)],⟨rfl,rfl,trivial⟩,rfl⟩
 refine .a 1 ?_;refine .sK [0,1] ?_;refine .seq_mid (fun ρ H=>ρ=[]∧H=[]∧KY k=some r) ?_ ?_
 ·refine .a 7 ?_;refine .wK [0,1,12,13] ?_;refine .loop (fun kq ρ H=>∃ (x4:Int),ρ=[(0,(.fz 1 (p0.map AA))),(1,(.fz 1 (p1.map AA))),(12,(AA (p0.length:Int))),(13,(AA x4))]∧H=[]∧DX k p0 p1 kq x4=some r) k ⟨(0:Int),rfl,rfl,h⟩ ?_;rintro kq6 _ _ ⟨x4,rfl,rfl,h⟩
  cases kq6 with
  | zero=>rw[DX.eq_1]at h;cases h
  | succ kq6=>
  rw[DX.eq_2]at h;generalize hrec5:DX k p0 p1 kq6=rec5 at h;refine .a 5 ?_;rcases oi h with⟨c7,h⟩|⟨c7,h⟩
  ·refine .a 10 ?_;refine .regQ (by rfl) (by decide+kernel) ?_;refine .a 2 ?_;obtain⟨g8,h⟩:=AD h;refine .a 4 ?_;obtain⟨g9,h⟩:=AD h;refine .a 4 ?_;rcases oi h with⟨c10,h⟩|⟨c10,h⟩
   ·refine .a 4 ?_;refine .nK [4] ?_;refine .rK [4] ?_;have hr:=Option.some.inj h;subst hr;exact⟨[(AB false)],⟨rfl,rfl,trivial⟩,rfl⟩
   refine .a 5 ?_;refine .nK [0,1,12,13] ?_;exact⟨kq6,Nat.lt_succ_self _,(AH (x4+(1:Int))),rfl,rfl,by rw[hrec5];exact h⟩
  refine .a 1 ?_;refine .eK [] ?_;exact⟨rfl,rfl,h⟩
 rintro _ _ ⟨rfl,rfl,h⟩;rw[KY.eq_1]at h;refine .a 3 ?_;refine .nK [4] ?_;refine .rK [4] ?_;have hr:=Option.some.inj h;subst hr;exact⟨[(AB true)],⟨rfl,rfl,trivial⟩,rfl⟩
def SX (k:Nat) (p0:Dx) (p1:Dx):Option Bool:=
 Option.bind (α:=Bool) (if p0.f0=p1.f0 then if p0.f1=p1.f1 then if(p0.f3==p1.f3)=true then if p0.f4=p1.f4 then(SI k p0.f2 p1.f2).bind fun t11=>
 if t11=true then(Qq k p0.f5 p1.f5).bind fun t13=>
 some (t13)
 else some (false)
 else some (false)
 else some (false)
 else some (false)
 else some (false)) fun b5=>
 some (b5)
theorem Np {k:Nat} {p0:Dx} {p1:Dx} {r:Bool} (h:SX k p0 p1=some r):AM Tryz.prog 32 [(Di p0),(Di p1)] (AB r):=by
 rw[SX.eq_1]at h;refine AM.intro (res:=[.tmp 4]) Tryz.func32 rfl rfl rfl (Nat.le_of_ble_eq_true rfl) ?_;refine .sr ?_;refine .box rfl 2 rfl (by decide) rfl rfl rfl fun n3=>?_;refine .box rfl 3 rfl (by decide) rfl rfl rfl fun n4=>?_;refine .a 1 ?_;refine .nS [2,3] [1,0] ?_;refine .seq ?_;obtain⟨b5,q6,h⟩:=ob h;refine .regM [(4,(AB b5))] [] ?_ ?_
 ·refine .a 6 ?_;rcases oi q6 with⟨c7,q6⟩|⟨c7,q6⟩
  ·refine .a 7 ?_;rcases oi q6 with⟨c8,q6⟩|⟨c8,q6⟩
   ·refine .a 4 ?_;refine .cG (x:=AB (p0.f3==p1.f3)) rfl rfl (bD (decide_eq_true c8)) (.boolEq rfl rfl rfl Tryz.underlying4) ?_;refine .a 2 ?_;rcases oi q6 with⟨c9,q6⟩|⟨c9,q6⟩
    ·refine .a 7 ?_;rcases oi q6 with⟨c10,q6⟩|⟨c10,q6⟩
     ·refine .a 4 ?_;obtain⟨t11,et11,q6⟩:=ob q6;refine .callG 26 true 31 [(.fz 2 (p0.f2.map Ea)),(.fz 2 (p1.f2.map Ea))] (AB t11) 36 rfl (by decide) Vd rfl rfl (bD (decide_eq_true c10)) rfl rfl ⟨rfl,rfl,rfl,rfl,trivial⟩ (N4 et11) ?_;refine .a 2 ?_;rcases oi q6 with⟨c12,q6⟩|⟨c12,q6⟩
      ·refine .a 4 ?_;obtain⟨t13,et13,q6⟩:=ob q6;refine .callG 33 true 38 [(Gy p0.f5),(Gy p1.f5)] (AB t13) 43 rfl (by decide) Tk rfl rfl (bD c12) rfl rfl ⟨rfl,rfl,rfl,rfl,trivial⟩ (KR et13) ?_;refine .a 2 ?_;cases q6;refine .nilE ⟨rfl,rfl⟩ ?_ ?_
       ·exact⟨rfl,trivial⟩
       exact(.nil _)
      refine .a 7 ?_;cases q6;refine .nilE ⟨rfl,rfl⟩ ?_ ?_
      ·exact⟨rfl,trivial⟩
      exact(.nil _)
     refine .a 14 ?_;cases q6;refine .nilE ⟨rfl,rfl⟩ ?_ ?_
     ·exact⟨rfl,trivial⟩
     exact(.nil _)
    refine .a 21 ?_;cases q6;refine .nilE ⟨rfl,rfl⟩ ?_ ?_
    ·exact⟨rfl,trivial⟩
    exact(.nil _)
   refine .a 28 ?_;cases q6;refine .nilE ⟨rfl,rfl⟩ ?_ ?_
   ·exact⟨rfl,trivial⟩
   exact(.nil _)
  refine .a 35 ?_;cases q6;refine .nilE ⟨rfl,rfl⟩ ?_ ?_
  ·exact⟨rfl,trivial⟩
  exact(.nil _)
 refine .rK [4] ?_;have hr:=Option.some.inj h;subst hr;exact⟨[(AB b5)],⟨rfl,rfl,trivial⟩,rfl⟩
def Ke (k:Nat):Option Bool:=
 some (true)
def Da (k:Nat) (p0:(List Dx)) (p1:(List Dx)):Nat→Int→Option Bool
 | 0,_=>none
 | j+1,x5=>
   if x5<(p0.length:Int)then if 0≤x5∧x5<(p0.length:Int)then if 0≤x5∧x5<(p1.length:Int)then(SX k (AC p0 x5) (AC p1 x5)).bind fun t13=>
   if(!t13)=true then some (false)
   else(Da k p0 p1 j) (AH (x5+(1:Int)))
   else none
   else none
   else Ke k
def Rb (k:Nat) (p0:(List Dx)) (p1:(List Dx)):Option Bool:=
 if(p0.length:Int)≠(p1.length:Int)then some (false)
 else Da k p0 p1 k (0:Int)
theorem Nr {k:Nat} {p0:(List Dx)} {p1:(List Dx)} {r:Bool} (h:Rb k p0 p1=some r):AM Tryz.prog 31 [(.fz 6 (p0.map Di)),(.fz 6 (p1.map Di)),(.fl (.func (.func 32) #[] #[]))] (AB r):=by
 rw[Rb.eq_1]at h;refine AM.intro (res:=[.tmp 6]) Tryz.func31 rfl rfl rfl (Nat.le_of_ble_eq_true rfl) ?_;refine .a 13 ?_;rcases oi h with⟨c4,h⟩|⟨c4,h⟩
 ·refine .a 4 ?_;refine .nK [6] ?_;refine .rK [6] ?_;have hr:=Option.some.inj h;subst hr;exact⟨[(AB false)],⟨rfl,rfl,trivial⟩,rfl⟩
 refine .a 1 ?_;refine .sK [0,1,2] ?_;refine .seq_mid (fun ρ H=>ρ=[]∧H=[]∧Ke k=some r) ?_ ?_
 ·refine .a 7 ?_;refine .wK [1,2,15,16,17] ?_;refine .loop (fun kq ρ H=>∃ (x5:Int),ρ=[(1,(.fz 6 (p1.map Di))),(2,(.fl (.func (.func 32) #[] #[]))),(15,(.fz 6 (p0.map Di))),(16,(AA (p0.length:Int))),(17,(AA x5))]∧H=[]∧Da k p0 p1 kq x5=some r) k ⟨(0:Int),rfl,rfl,h⟩ ?_;rintro kq7 _ _ ⟨x5,rfl,rfl,h⟩
  cases kq7 with
  | zero=>rw[Da.eq_1]at h;cases h
  | succ kq7=>
  rw[Da.eq_2]at h;generalize hrec6:Da k p0 p1 kq7=rec6 at h;refine .a 5 ?_;rcases oi h with⟨c8,h⟩|⟨c8,h⟩
  ·refine .a 7 ?_;obtain⟨g9,h⟩:=AD h;refine .a 2 ?_;refine .alloc rfl 8 rfl (by decide) rfl KB GS fun n10=>?_;refine .a 1 ?_;refine .store 0 rfl rfl rfl rfl rfl rfl (.cast .here rfl) rfl rfl HQ rfl ?_;refine .a 5 ?_;obtain⟨g11,h⟩:=AD h;refine .a 2 ?_;refine .alloc rfl 9 rfl (by decide) rfl KB GS fun n12=>?_;refine .store 0 rfl rfl rfl rfl rfl rfl (.cast .here rfl) rfl rfl HQ rfl ?_;refine .nS [1,2,8,9,15,16,17] [1,0] ?_;refine .a 5 ?_;obtain⟨t13,et13,h⟩:=ob h;refine .callS [(Di (AC p0 x5)),(Di (AC p1 x5))] (AB t13) 29 rfl (by decide) U8 rfl rfl rfl ⟨rfl,rfl,rfl,rfl,trivial⟩ (Np et13) ?_;refine .a 1 ?_;refine .nS [1,2,15,16,17,30] [] ?_;rcases oi h with⟨c14,h⟩|⟨c14,h⟩
   ·refine .a 4 ?_;refine .nK [6] ?_;refine .rK [6] ?_;have hr:=Option.some.inj h;subst hr;exact⟨[(AB false)],⟨rfl,rfl,trivial⟩,rfl⟩
   refine .a 5 ?_;refine .nK [1,2,15,16,17] ?_;exact⟨kq7,Nat.lt_succ_self _,(AH (x5+(1:Int))),rfl,rfl,by rw[hrec6];exact h⟩
  refine .a 1 ?_;refine .eK [] ?_;exact⟨rfl,rfl,h⟩
 rintro _ _ ⟨rfl,rfl,h⟩;rw[Ke.eq_1]at h;refine .a 3 ?_;refine .nK [6] ?_;refine .rK [6] ?_;have hr:=Option.some.inj h;subst hr;exact⟨[(AB true)],⟨rfl,rfl,trivial⟩,rfl⟩
def Sn (k:Nat) (p0:IX) (p1:IX):Option Bool:=
 Option.bind (α:=Bool) (if p0.f0=p1.f0 then(Qq k p0.f1 p1.f1).bind fun t8=>
 some (t8)
 else some (false)) fun b5=>
 some (b5)
theorem Nc {k:Nat} {p0:IX} {p1:IX} {r:Bool} (h:Sn k p0 p1=some r):AM Tryz.prog 34 [(IV p0),(IV p1)] (AB r):=by
 rw[Sn.eq_1]at h;refine AM.intro (res:=[.tmp 4]) Tryz.func34 rfl rfl rfl (Nat.le_of_ble_eq_true rfl) ?_;refine .sr ?_;refine .box rfl 2 rfl (by decide) rfl rfl rfl fun n3=>?_;refine .box rfl 3 rfl (by decide) rfl rfl rfl fun n4=>?_;refine .a 1 ?_;refine .nS [2,3] [1,0] ?_;refine .seq ?_;obtain⟨b5,q6,h⟩:=ob h;refine .regM [(4,(AB b5))] [] ?_ ?_
 ·refine .a 6 ?_;rcases oi q6 with⟨c7,q6⟩|⟨c7,q6⟩
  ·refine .a 4 ?_;obtain⟨t8,et8,q6⟩:=ob q6;refine .callG 5 true 10 [(Gy p0.f1),(Gy p1.f1)] (AB t8) 15 rfl (by decide) Tk rfl rfl (bD (decide_eq_true c7)) rfl rfl ⟨rfl,rfl,rfl,rfl,trivial⟩ (KR et8) ?_;refine .a 2 ?_;cases q6;refine .nilE ⟨rfl,rfl⟩ ?_ ?_
   ·exact⟨rfl,trivial⟩
   exact(.nil _)
  refine .a 7 ?_;cases q6;refine .nilE ⟨rfl,rfl⟩ ?_ ?_
  ·exact⟨rfl,trivial⟩
  exact(.nil _)
 refine .rK [4] ?_;have hr:=Option.some.inj h;subst hr;exact⟨[(AB b5)],⟨rfl,rfl,trivial⟩,rfl⟩
def LF (k:Nat):Option Bool:=
 some (true)
def Dh (k:Nat) (p0:(List IX)) (p1:(List IX)):Nat→Int→Option Bool
 | 0,_=>none
 | j+1,x5=>
   if x5<(p0.length:Int)then if 0≤x5∧x5<(p0.length:Int)then if 0≤x5∧x5<(p1.length:Int)then(Sn k (AC p0 x5) (AC p1 x5)).bind fun t13=>
   if(!t13)=true then some (false)
   else(Dh k p0 p1 j) (AH (x5+(1:Int)))
   else none
   else none
   else LF k
def Rd (k:Nat) (p0:(List IX)) (p1:(List IX)):Option Bool:=
 if(p0.length:Int)≠(p1.length:Int)then some (false)
 else Dh k p0 p1 k (0:Int)
theorem NB {k:Nat} {p0:(List IX)} {p1:(List IX)} {r:Bool} (h:Rd k p0 p1=some r):AM Tryz.prog 33 [(.fz 2 (p0.map IV)),(.fz 2 (p1.map IV)),(.fl (.func (.func 34) #[] #[]))] (AB r):=by
 rw[Rd.eq_1]at h;refine AM.intro (res:=[.tmp 6]) Tryz.func33 rfl rfl rfl (Nat.le_of_ble_eq_true rfl) ?_;refine .a 13 ?_;rcases oi h with⟨c4,h⟩|⟨c4,h⟩
 ·refine .a 4 ?_;refine .nK [6] ?_;refine .rK [6] ?_;have hr:=Option.some.inj h;subst hr;exact⟨[(AB false)],⟨rfl,rfl,trivial⟩,rfl⟩
 refine .a 1 ?_;refine .sK [0,1,2] ?_;refine .seq_mid (fun ρ H=>ρ=[]∧H=[]∧LF k=some r) ?_ ?_
 ·refine .a 7 ?_;refine .wK [1,2,15,16,17] ?_;refine .loop (fun kq ρ H=>∃ (x5:Int),ρ=[(1,(.fz 2 (p1.map IV))),(2,(.fl (.func (.func 34) #[] #[]))),(15,(.fz 2 (p0.map IV))),(16,(AA (p0.length:Int))),(17,(AA x5))]∧H=[]∧Dh k p0 p1 kq x5=some r) k ⟨(0:Int),rfl,rfl,h⟩ ?_;rintro kq7 _ _ ⟨x5,rfl,rfl,h⟩
  cases kq7 with
  | zero=>rw[Dh.eq_1]at h;cases h
  | succ kq7=>
  rw[Dh.eq_2]at h;generalize hrec6:Dh k p0 p1 kq7=rec6 at h;refine .a 5 ?_;rcases oi h with⟨c8,h⟩|⟨c8,h⟩
  ·refine .a 7 ?_;obtain⟨g9,h⟩:=AD h;refine .a 2 ?_;refine .alloc rfl 8 rfl (by decide) rfl QI Lr fun n10=>?_;refine .a 1 ?_;refine .store 0 rfl rfl rfl rfl rfl rfl (.cast .here rfl) rfl rfl LC rfl ?_;refine .a 5 ?_;obtain⟨g11,h⟩:=AD h;refine .a 2 ?_;refine .alloc rfl 9 rfl (by decide) rfl QI Lr fun n12=>?_;refine .store 0 rfl rfl rfl rfl rfl rfl (.cast .here rfl) rfl rfl LC rfl ?_;refine .nS [1,2,8,9,15,16,17] [1,0] ?_;refine .a 5 ?_;obtain⟨t13,et13,h⟩:=ob h;refine .callS [(IV (AC p0 x5)),(IV (AC p1 x5))] (AB t13) 29 rfl (by decide) VD rfl rfl rfl ⟨rfl,rfl,rfl,rfl,trivial⟩ (Nc et13) ?_;refine .a 1 ?_;refine .nS [1,2,15,16,17,30] [] ?_;rcases oi h with⟨c14,h⟩|⟨c14,h⟩
   ·refine .a 4 ?_;refine .nK [6] ?_;refine .rK [6] ?_;have hr:=Option.some.inj h;subst hr;exact⟨[(AB false)],⟨rfl,rfl,trivial⟩,rfl⟩
   refine .a 5 ?_;refine .nK [1,2,15,16,17] ?_;exact⟨kq7,Nat.lt_succ_self _,(AH (x5+(1:Int))),rfl,rfl,by rw[hrec6];exact h⟩
  refine .a 1 ?_;refine .eK [] ?_;exact⟨rfl,rfl,h⟩
 rintro _ _ ⟨rfl,rfl,h⟩;rw[LF.eq_1]at h;refine .a 3 ?_;refine .nK [6] ?_;refine .rK [6] ?_;have hr:=Option.some.inj h;subst hr;exact⟨[(AB true)],⟨rfl,rfl,trivial⟩,rfl⟩
def F9 (k:Nat) (p0:A6) (p1:A6):Option Bool:=
 Option.bind (α:=Bool) ((Rn k p0.f0 p1.f0).bind fun t7=>
 if t7=true then(Ru k p0.f1 p1.f1).bind fun t9=>
 if t9=true then if p0.f4=p1.f4 then(Rb k p0.f2 p1.f2).bind fun t12=>
 if t12=true then(Rd k p0.f3 p1.f3).bind fun t14=>
 some (t14)
 else some (false)
 else some (false)
 else some (false)
 else some (false)) fun b5=>
 some (b5)
theorem Pt {k:Nat} {p0:A6} {p1:A6} {r:Bool} (h:F9 k p0 p1=some r):AM Tryz.prog 9 [(BA p0),(BA p1)] (AB r):=by
 rw[F9.eq_1]at h;refine AM.intro (res:=[.tmp 4]) Tryz.func9 rfl rfl rfl (Nat.le_of_ble_eq_true rfl) ?_;refine .sr ?_;refine .box rfl 2 rfl (by decide) rfl rfl rfl fun n3=>?_;refine .box rfl 3 rfl (by decide) rfl rfl rfl fun n4=>?_;refine .a 1 ?_;refine .nS [2,3] [1,0] ?_;refine .seq ?_;obtain⟨b5,q6,h⟩:=ob h;refine .regM [(4,(AB b5))] [] ?_ ?_
 ·refine .a 4 ?_;obtain⟨t7,et7,q6⟩:=ob q6;refine .callS [(.fz 3 (p0.f0.map DT)),(.fz 3 (p1.f0.map DT))] (AB t7) 9 rfl (by decide) Ut rfl rfl rfl ⟨rfl,rfl,rfl,rfl,trivial⟩ (Nx et7) ?_;refine .a 1 ?_;rcases oi q6 with⟨c8,q6⟩|⟨c8,q6⟩
  ·refine .a 4 ?_;obtain⟨t9,et9,q6⟩:=ob q6;refine .callG 5 true 10 [(.fz 1 (p0.f1.map AI)),(.fz 1 (p1.f1.map AI))] (AB t9) 15 rfl (by decide) Vp rfl rfl (bD c8) rfl rfl ⟨rfl,rfl,rfl,rfl,trivial⟩ (PH et9) ?_;refine .a 2 ?_;rcases oi q6 with⟨c10,q6⟩|⟨c10,q6⟩
   ·refine .a 7 ?_;rcases oi q6 with⟨c11,q6⟩|⟨c11,q6⟩
    ·refine .a 4 ?_;obtain⟨t12,et12,q6⟩:=ob q6;refine .callG 19 true 24 [(.fz 6 (p0.f2.map Di)),(.fz 6 (p1.f2.map Di)),(.fl (.func (.func 32) #[] #[]))] (AB t12) 29 rfl (by decide) Uu rfl rfl (bD (decide_eq_true c11)) rfl rfl ⟨rfl,rfl,rfl,rfl,rfl,rfl,trivial⟩ (Nr et12) ?_;refine .a 2 ?_;rcases oi q6 with⟨c13,q6⟩|⟨c13,q6⟩
     ·refine .a 4 ?_;obtain⟨t14,et14,q6⟩:=ob q6;refine .callG 26 true 31 [(.fz 2 (p0.f3.map IV)),(.fz 2 (p1.f3.map IV)),(.fl (.func (.func 34) #[] #[]))] (AB t14) 36 rfl (by decide) U2 rfl rfl (bD c13) rfl rfl ⟨rfl,rfl,rfl,rfl,rfl,rfl,trivial⟩ (NB et14) ?_;refine .a 2 ?_;cases q6;refine .nilE ⟨rfl,rfl⟩ ?_ ?_
      ·exact⟨rfl,trivial⟩
      exact(.nil _)
     refine .a 7 ?_;cases q6;refine .nilE ⟨rfl,rfl⟩ ?_ ?_
     ·exact⟨rfl,trivial⟩
     exact(.nil _)
    refine .a 14 ?_;cases q6;refine .nilE ⟨rfl,rfl⟩ ?_ ?_
    ·exact⟨rfl,trivial⟩
    exact(.nil _)
   refine .a 21 ?_;cases q6;refine .nilE ⟨rfl,rfl⟩ ?_ ?_
   ·exact⟨rfl,trivial⟩
   exact(.nil _)
  refine .a 28 ?_;cases q6;refine .nilE ⟨rfl,rfl⟩ ?_ ?_
  ·exact⟨rfl,trivial⟩
  exact(.nil _)
 refine .rK [4] ?_;have hr:=Option.some.inj h;subst hr;exact⟨[(AB b5)],⟨rfl,rfl,trivial⟩,rfl⟩
end Go.Avl.TC
