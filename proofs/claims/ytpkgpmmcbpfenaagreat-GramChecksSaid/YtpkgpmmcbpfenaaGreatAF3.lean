/- Parts: TCf65, TCf37, TCf66, TCf68, TCf94, TCf91, TCf67, TCf70, TCf92, TCf115, TCf93. -/
import Derived.Test.YtpkgpmmcbpfenaaGreatAF1
import Derived.Test.YtpkgpmmcbpfenaaGreatAF2
namespace Go.Avl.TC
open Go Go.RowKit Go.Proofs Go.Avl
set_option linter.unusedVariables false
set_option maxRecDepth 100000
set_option maxHeartbeats 4000000
set_option linter.unusedSimpArgs false
attribute [local irreducible] AW AO AQ AM Al AG
def C2 (k:Nat) (p1:AE) (p2:(List Ar)) (t5:(Ar×BD)) (x9:Int) (x11:(List AR)) (x12:Int) (x13:Int):Option ((List Ar)×BD):=
 (PQ k p1.f0).bind fun t14=>
 if 0≤(AH ((p2.length:Int) -t14))∧(AH ((p2.length:Int) -t14))≤(p2.length:Int)then if(p2.take ((AH ((p2.length:Int) -t14)).toNat)++([t5.1]:List Ar)).length*16≤140737488355328 then some ((p2.take ((AH ((p2.length:Int) -t14)).toNat)++([t5.1]:List Ar)),(BD.mk (Ay.mk x9 x11 x12 x13)))
 else none
 else none
def Cj (k:Nat) (p1:AE) (p2:(List Ar)) (t5:(Ar×BD)):Nat→Int→(List AR)→Int→Int→Int→Option ((List Ar)×BD)
 | 0,_,_,_,_,_=>none
 | j+1,x43,x45,x46,x47,x48=>
   if x48<(((p2.length - (AH ((p2.length:Int) - (2:Int))).toNat):Nat):Int)then if 0≤x48∧x48<(((p2.length - (AH ((p2.length:Int) - (2:Int))).toNat):Nat):Int)then(GT k (BD.mk (Ay.mk x43 x45 x46 x47)) t5.1.f0 ((AC p2 ((AH ((p2.length:Int) - (2:Int)))+x48)).f0)).bind fun t55=>
   (GT k (BD.mk (Ay.mk t55.f0.f0 t55.f0.f1 t55.f0.f2 t55.f0.f3)) ((AC p2 ((AH ((p2.length:Int) - (2:Int)))+x48)).f1) t5.1.f1).bind fun t58=>
   (Cj k p1 p2 t5 j) t58.f0.f0 t58.f0.f1 t58.f0.f2 t58.f0.f3 (AH (x48+(1:Int)))
   else none
   else C2 k p1 p2 t5 x43 x45 x46 x47
def GK (k:Nat) (p1:AE) (p2:(List Ar)) (t5:(Ar×BD)) (x69:Int) (x71:(List AR)) (x72:Int) (x73:Int):Option ((List Ar)×BD):=
 if p1.f0≠(5:Int)then(GT k (BD.mk (Ay.mk x69 x71 x72 x73)) t5.1.f0 t5.1.f1).bind fun t75=>
 C2 k p1 p2 t5 t75.f0.f0 t75.f0.f1 t75.f0.f2 t75.f0.f3
 else C2 k p1 p2 t5 x69 x71 x72 x73
def Si (k:Nat) (p0:BD) (p1:AE) (p2:(List Ar)):Option ((List Ar)×BD):=
 (SV k (BD.mk (Ay.mk p0.f0.f0 p0.f0.f1 p0.f0.f2 p0.f0.f3))).bind fun t5=>
 if p1.f0=(0:Int)then(GT k (BD.mk (Ay.mk t5.2.f0.f0 t5.2.f0.f1 t5.2.f0.f2 t5.2.f0.f3)) t5.1.f0 t5.1.f1).bind fun t20=>
 C2 k p1 p2 t5 t20.f0.f0 t20.f0.f1 t20.f0.f2 t20.f0.f3
 else if p1.f0=(1:Int)then if(t5.2.f0.f1++([(AR.mk t5.1.f0 t5.1.f1 p1.f1 false)]:List AR)).length*56≤140737488355328 then C2 k p1 p2 t5 t5.2.f0.f0 (t5.2.f0.f1++([(AR.mk t5.1.f0 t5.1.f1 p1.f1 false)]:List AR)) t5.2.f0.f2 t5.2.f0.f3
 else none
 else if p1.f0=(2:Int)then if 0≤(AH ((p2.length:Int) - (2:Int)))∧(AH ((p2.length:Int) - (2:Int)))<(p2.length:Int)then if 0≤(AH ((p2.length:Int) - (1:Int)))∧(AH ((p2.length:Int) - (1:Int)))<(p2.length:Int)then(GT k (BD.mk (Ay.mk t5.2.f0.f0 t5.2.f0.f1 t5.2.f0.f2 t5.2.f0.f3)) t5.1.f0 ((AC p2 (AH ((p2.length:Int) - (2:Int)))).f0)).bind fun t32=>
 (GT k (BD.mk (Ay.mk t32.f0.f0 t32.f0.f1 t32.f0.f2 t32.f0.f3)) ((AC p2 (AH ((p2.length:Int) - (2:Int)))).f1) ((AC p2 (AH ((p2.length:Int) - (1:Int)))).f0)).bind fun t35=>
 (GT k (BD.mk (Ay.mk t35.f0.f0 t35.f0.f1 t35.f0.f2 t35.f0.f3)) ((AC p2 (AH ((p2.length:Int) - (1:Int)))).f1) t5.1.f1).bind fun t38=>
 C2 k p1 p2 t5 t38.f0.f0 t38.f0.f1 t38.f0.f2 t38.f0.f3
 else none
 else none
 else if p1.f0=(3:Int)then if 0≤(AH ((p2.length:Int) - (2:Int)))∧(AH ((p2.length:Int) - (2:Int)))≤(p2.length:Int)then Cj k p1 p2 t5 k t5.2.f0.f0 t5.2.f0.f1 t5.2.f0.f2 t5.2.f0.f3 (0:Int)
 else none
 else if 0≤(AH ((p2.length:Int) - (1:Int)))∧(AH ((p2.length:Int) - (1:Int)))<(p2.length:Int)then(GT k (BD.mk (Ay.mk t5.2.f0.f0 t5.2.f0.f1 t5.2.f0.f2 t5.2.f0.f3)) t5.1.f0 ((AC p2 (AH ((p2.length:Int) - (1:Int)))).f0)).bind fun t63=>
 (GT k (BD.mk (Ay.mk t63.f0.f0 t63.f0.f1 t63.f0.f2 t63.f0.f3)) ((AC p2 (AH ((p2.length:Int) - (1:Int)))).f1) t5.1.f1).bind fun t66=>
 if p1.f0≠(6:Int)then(GT k (BD.mk (Ay.mk t66.f0.f0 t66.f0.f1 t66.f0.f2 t66.f0.f3)) ((AC p2 (AH ((p2.length:Int) - (1:Int)))).f1) ((AC p2 (AH ((p2.length:Int) - (1:Int)))).f0)).bind fun t79=>
 GK k p1 p2 t5 t79.f0.f0 t79.f0.f1 t79.f0.f2 t79.f0.f3
 else GK k p1 p2 t5 t66.f0.f0 t66.f0.f1 t66.f0.f2 t66.f0.f3
 else none
theorem PL {k:Nat} {p0:BD} {p1:AE} {p2:(List Ar)} {r:((List Ar)×BD)} (h:Si k p0 p1 p2=some r) {q0:Nat} {q0_0:Nat} {q2:Nat} {T0:AN}:Al Tryz.prog 65 [(.ptr q0 0),(AJ p1),(.own q2 0 p2.length)] ((q0,(.mem (.st [(4,(.st [(1,(AA p0.f0.f0)),(1,(.own q0_0 0 p0.f0.f1.length)),(1,(AA p0.f0.f2)),(1,(AA p0.f0.f3))]))])))::(q0_0,(.mem (.ar 7 (p0.f0.f1.map A9))))::(q2,.mem (.ar 2 (p2.map Cb)))::T0) (fun x H'=>∃ m m0_0,x=.own m 0 r.1.length∧BS ((m,.mem (.ar 2 (r.1.map Cb)))::(q0,(.mem (.st [(4,(.st [(1,(AA r.2.f0.f0)),(1,(.own m0_0 0 r.2.f0.f1.length)),(1,(AA r.2.f0.f2)),(1,(AA r.2.f0.f3))]))])))::(m0_0,(.mem (.ar 7 (r.2.f0.f1.map A9))))::T0) H'):=by
 rw[Si.eq_1]at h;refine Al.intro (res:=[.tmp 6]) Tryz.func65 rfl rfl rfl (Nat.le_of_ble_eq_true rfl) ?_;refine .sr ?_;refine .box rfl 4 rfl (by decide) rfl rfl rfl fun n4=>?_;refine .a 1 ?_;refine .nH [0,2,4] (H':=((Z0 q0 p0.f0.f0 q0_0 p0.f0.f1.length p0.f0.f2 p0.f0.f3)::(Z5 q0_0 p0.f0.f1)::(Z4 q2 p2)::(n4,(.mem (AJ p1)))::T0)) (.cons 1 rfl (.cons 1 rfl (.cons 1 rfl (.cons 0 rfl (.refl _))))) ?_;refine .a 9 ?_;obtain⟨t5,et5,h⟩:=ob h;refine .callH [(.ptr q0 0)] ((Z0 q0 p0.f0.f0 q0_0 p0.f0.f1.length p0.f0.f2 p0.f0.f3)::(Z5 q0_0 p0.f0.f1)::(Z4 q2 p2)::(n4,(.mem (AJ p1)))::T0) _ rfl rfl rfl 17 rfl (by decide) Vf ⟨rfl,rfl,trivial⟩ (.cons 0 rfl (.cons 0 rfl (.refl _))) (Oc et5) ?_;rintro _ _ ⟨n7,rfl,hs6⟩;refine .wH [0,2,4,7,16,17] hs6 ?_;refine .alloc rfl 8 rfl (by decide) rfl En DY fun n8=>?_;refine .store 0 rfl rfl rfl rfl rfl rfl (.cast .here rfl) rfl rfl CJ rfl ?_;refine .nH [0,2,4,7,8] (H':=((Z0 q0 t5.2.f0.f0 n7 t5.2.f0.f1.length t5.2.f0.f2 t5.2.f0.f3)::(Z5 n7 t5.2.f0.f1)::(Z4 q2 p2)::(n4,(.mem (AJ p1)))::(Bb n8 t5.1)::T0)) (.cons 1 rfl (.cons 1 rfl (.cons 1 rfl (.cons 1 rfl (.cons 0 rfl (.refl _)))))) ?_;refine .seq_mid (fun ρ H=>∃ (n10:Nat) (x9:Int) (x11:(List AR)) (x12:Int) (x13:Int),ρ=[(2,(.own q2 0 p2.length)),(4,(.ptr n4 0)),(7,(AA (p2.length:Int))),(8,(.ptr n8 0))]∧H=((Z0 q0 x9 n10 x11.length x12 x13)::(Z5 n10 x11)::(Z4 q2 p2)::(n4,(.mem (AJ p1)))::(Bb n8 t5.1)::T0)∧C2 k p1 p2 t5 x9 x11 x12 x13=some r) ?_ ?_
 ·refine .a 11 ?_;rcases oi h with⟨c19,h⟩|⟨c19,h⟩
  ·refine .a 7 ?_;obtain⟨t20,et20,h⟩:=ob h;refine .callH [(.ptr q0 0),(AA t5.1.f0),(AA t5.1.f1)] ((Z0 q0 t5.2.f0.f0 n7 t5.2.f0.f1.length t5.2.f0.f2 t5.2.f0.f3)::(Z5 n7 t5.2.f0.f1)::(Z4 q2 p2)::(n4,(.mem (AJ p1)))::(Bb n8 t5.1)::T0) _ rfl rfl rfl 62 rfl (by decide) Hu ⟨rfl,rfl,rfl,rfl,rfl,rfl,trivial⟩ (.cons 0 rfl (.cons 0 rfl (.refl _))) (Bp et20) ?_;rintro _ _ ⟨n22,rfl,hs21⟩;refine .wH [0,2,4,7,8,19,55,57,58,59,60,61,62] hs21 ?_;refine .nK [2,4,7,8] ?_;exact⟨n22,t20.f0.f0,t20.f0.f1,t20.f0.f2,t20.f0.f3,rfl,rfl,h⟩
  refine .a 6 ?_;rcases oi h with⟨c23,h⟩|⟨c23,h⟩
  ·refine .a 1 ?_;obtain⟨g26,h⟩:=AD h
   refine .regEff (by rfl) (by decide+kernel) (fun (σ:Nat→Nat)=>([(.ptr q0 0),(.ptr q0 0),(.ptr q0 0),(.ptr q0 0),(.ptr q0 1),(.own n7 0 t5.2.f0.f1.length),(.ptr n8 0),(AA t5.1.f0),(.ptr n8 1),(AA t5.1.f1),(.ptr n4 1),(.ar 1 (p1.f1.toList.map AL)),(A9 (AR.mk t5.1.f0 t5.1.f1 p1.f1 false)),(.fz 7 (([(AR.mk t5.1.f0 t5.1.f1 p1.f1 false)]:List AR).map A9)),(.own (σ 14) 0 (t5.2.f0.f1++([(AR.mk t5.1.f0 t5.1.f1 p1.f1 false)]:List AR)).length),(.ptr q0 0),(.ptr q0 0),(.ptr q0 1),(.fl undef)]:List AV)) (fun (L:Nat→Bool) (σ:Nat→Nat)=>((Z4 q2 p2)::(n4,(.mem (AJ p1)))::(Bb n8 t5.1)::(bif L 14 then(bif L 18 then((Z0 q0 t5.2.f0.f0 (σ 14) (t5.2.f0.f1++([(AR.mk t5.1.f0 t5.1.f1 p1.f1 false)]:List AR)).length t5.2.f0.f2 t5.2.f0.f3)::((σ 14),(.mem (.ar 7 ((t5.2.f0.f1++([(AR.mk t5.1.f0 t5.1.f1 p1.f1 false)]:List AR)).map A9))))::T0)else((Z0 q0 t5.2.f0.f0 n7 t5.2.f0.f1.length t5.2.f0.f2 t5.2.f0.f3)::((σ 14),(.mem (.ar 7 ((t5.2.f0.f1++([(AR.mk t5.1.f0 t5.1.f1 p1.f1 false)]:List AR)).map A9))))::T0))else((Z0 q0 t5.2.f0.f0 n7 t5.2.f0.f1.length t5.2.f0.f2 t5.2.f0.f3)::(Z5 n7 t5.2.f0.f1)::T0)):AN)) [(0,(.ptr q0 0)),(2,(.own q2 0 p2.length)),(4,(.ptr n4 0)),(7,(AA (p2.length:Int))),(8,(.ptr n8 0))] ⟨rfl,rfl,rfl,rfl,rfl,trivial⟩ (fun _=>rfl) (fun σ=>(.cons 2 rfl (.cons 2 rfl (.cons 2 rfl (.cons 0 rfl (.cons 0 rfl (.refl _))))))) ⟨?_,?_,?_,?_,?_,?_,?_,?_,?_,?_,?_,?_,?_,?_,?_,?_,?_,?_,?_,trivial⟩ (fun σ=>[(2,(.own q2 0 p2.length)),(4,(.ptr n4 0)),(7,(AA (p2.length:Int))),(8,(.ptr n8 0))]) (fun σ=>((Z4 q2 p2)::(n4,(.mem (AJ p1)))::(Bb n8 t5.1)::(Z0 q0 t5.2.f0.f0 (σ 14) (t5.2.f0.f1++([(AR.mk t5.1.f0 t5.1.f1 p1.f1 false)]:List AR)).length t5.2.f0.f2 t5.2.f0.f3)::((σ 14),(.mem (.ar 7 ((t5.2.f0.f1++([(AR.mk t5.1.f0 t5.1.f1 p1.f1 false)]:List AR)).map A9))))::T0)) (fun σ=>⟨rfl,rfl,rfl,rfl,trivial⟩) (fun σ=>.refl _) (fun σ=>?_)
   ·refine .calm (fun _ _=>rfl) fun L σ hc hi hd=>?_;have m18:L 18=false:=hc.neg (i:=0) (j:=18) rfl (by rfl) hi
    cases b14:L 14 with
    | true=>
      refine .heq (H':=((Z4 q2 p2)::(n4,(.mem (AJ p1)))::(Bb n8 t5.1)::(Z0 q0 t5.2.f0.f0 n7 t5.2.f0.f1.length t5.2.f0.f2 t5.2.f0.f3)::((σ 14),(.mem (.ar 7 ((t5.2.f0.f1++([(AR.mk t5.1.f0 t5.1.f1 p1.f1 false)]:List AR)).map A9))))::T0)) (by first|rfl|simp only[b14,m18,cond_true,cond_false]) ?_;refine .a 1 ?_;exact .nE (d:=65) rfl ⟨⟨65,_,rfl,rfl,rfl⟩,.of_eq (by first|rfl|simp only[b14,m18,cond_true,cond_false]) (.refl _)⟩
    | false=>
      refine .heq (H':=((Z4 q2 p2)::(n4,(.mem (AJ p1)))::(Bb n8 t5.1)::(Z0 q0 t5.2.f0.f0 n7 t5.2.f0.f1.length t5.2.f0.f2 t5.2.f0.f3)::(Z5 n7 t5.2.f0.f1)::T0)) (by first|rfl|simp only[b14,m18,cond_true,cond_false]) ?_;refine .a 1 ?_;exact .nE (d:=65) rfl ⟨⟨65,_,rfl,rfl,rfl⟩,.of_eq (by first|rfl|simp only[b14,m18,cond_true,cond_false]) (.refl _)⟩
   ·refine .calm (fun _ _=>rfl) fun L σ hc hi hd=>?_;have m2:L 2=false:=hc.neg (i:=1) (j:=2) rfl (by rfl) hi;have m3:L 3=false:=hc.neg (i:=2) (j:=3) rfl (by rfl) m2;have m4:L 4=false:=hc.neg (i:=3) (j:=4) rfl (by rfl) m3;have m5:L 5=false:=hc.neg (i:=4) (j:=5) rfl (by rfl) m4;have m14:L 14=false:=hc.neg (i:=5) (j:=14) rfl (by rfl) m5;have m18:L 18=false:=hc.neg (i:=1) (j:=18) rfl (by rfl) hi;refine .heq (H':=((Z4 q2 p2)::(n4,(.mem (AJ p1)))::(Bb n8 t5.1)::(Z0 q0 t5.2.f0.f0 n7 t5.2.f0.f1.length t5.2.f0.f2 t5.2.f0.f3)::(Z5 n7 t5.2.f0.f1)::T0)) (by first|rfl|simp only[m14,m18,cond_true,cond_false]) ?_;refine .a 1 ?_;exact .nE (d:=66) rfl ⟨⟨66,_,rfl,rfl,rfl⟩,.of_eq (by first|rfl|simp only[m14,m18,cond_true,cond_false]) (.refl _)⟩
   ·refine .calm (fun _ _=>rfl) fun L σ hc hi hd=>?_;have m3:L 3=false:=hc.neg (i:=2) (j:=3) rfl (by rfl) hi;have m4:L 4=false:=hc.neg (i:=3) (j:=4) rfl (by rfl) m3;have m5:L 5=false:=hc.neg (i:=4) (j:=5) rfl (by rfl) m4;have m14:L 14=false:=hc.neg (i:=5) (j:=14) rfl (by rfl) m5;have m18:L 18=false:=hc.neg (i:=2) (j:=18) rfl (by rfl) hi;refine .heq (H':=((Z4 q2 p2)::(n4,(.mem (AJ p1)))::(Bb n8 t5.1)::(Z0 q0 t5.2.f0.f0 n7 t5.2.f0.f1.length t5.2.f0.f2 t5.2.f0.f3)::(Z5 n7 t5.2.f0.f1)::T0)) (by first|rfl|simp only[m14,m18,cond_true,cond_false]) ?_;refine .a 1 ?_;exact .nE (d:=67) rfl ⟨⟨67,_,rfl,rfl,rfl⟩,.of_eq (by first|rfl|simp only[m14,m18,cond_true,cond_false]) (.refl _)⟩
   ·refine .calm (fun _ _=>rfl) fun L σ hc hi hd=>?_;have m4:L 4=false:=hc.neg (i:=3) (j:=4) rfl (by rfl) hi;have m5:L 5=false:=hc.neg (i:=4) (j:=5) rfl (by rfl) m4;have m14:L 14=false:=hc.neg (i:=5) (j:=14) rfl (by rfl) m5;have m18:L 18=false:=hc.neg (i:=3) (j:=18) rfl (by rfl) hi;refine .heq (H':=((Z4 q2 p2)::(n4,(.mem (AJ p1)))::(Bb n8 t5.1)::(Z0 q0 t5.2.f0.f0 n7 t5.2.f0.f1.length t5.2.f0.f2 t5.2.f0.f3)::(Z5 n7 t5.2.f0.f1)::T0)) (by first|rfl|simp only[m14,m18,cond_true,cond_false]) ?_;refine .a 1 ?_;exact .nE (d:=68) rfl ⟨⟨68,_,rfl,rfl,rfl⟩,.of_eq (by first|rfl|simp only[m14,m18,cond_true,cond_false]) (.refl _)⟩
   ·refine .calm (fun _ _=>rfl) fun L σ hc hi hd=>?_;have m5:L 5=false:=hc.neg (i:=4) (j:=5) rfl (by rfl) hi;have m14:L 14=false:=hc.neg (i:=5) (j:=14) rfl (by rfl) m5;have m18:L 18=false:=hc.neg (i:=4) (j:=18) rfl (by rfl) hi;refine .heq (H':=((Z4 q2 p2)::(n4,(.mem (AJ p1)))::(Bb n8 t5.1)::(Z0 q0 t5.2.f0.f0 n7 t5.2.f0.f1.length t5.2.f0.f2 t5.2.f0.f3)::(Z5 n7 t5.2.f0.f1)::T0)) (by first|rfl|simp only[m14,m18,cond_true,cond_false]) ?_;refine .a 1 ?_;exact .nE (d:=69) rfl ⟨⟨69,_,rfl,rfl,rfl⟩,.of_eq (by first|rfl|simp only[m14,m18,cond_true,cond_false]) (.refl _)⟩
   ·refine .calm (fun _ _=>rfl) fun L σ hc hi hd=>?_;have m14:L 14=false:=hc.neg (i:=5) (j:=14) rfl (by rfl) hi;have m18:L 18=false:=hc.neg (i:=5) (j:=18) rfl (by rfl) hi;refine .heq (H':=((Z4 q2 p2)::(n4,(.mem (AJ p1)))::(Bb n8 t5.1)::(Z0 q0 t5.2.f0.f0 n7 t5.2.f0.f1.length t5.2.f0.f2 t5.2.f0.f3)::(Z5 n7 t5.2.f0.f1)::T0)) (by first|rfl|simp only[m14,m18,cond_true,cond_false]) ?_;refine .a 1 ?_;exact .nE (d:=70) rfl ⟨⟨70,_,rfl,rfl,rfl⟩,.of_eq (by first|rfl|simp only[m14,m18,cond_true,cond_false]) (.refl _)⟩
   ·refine .calm (fun _ _=>rfl) fun L σ hc hi hd=>?_;refine .a 1 ?_;exact .nE (d:=71) rfl ⟨⟨71,_,rfl,rfl,rfl⟩,.refl _⟩
   ·refine .calm (fun _ _=>rfl) fun L σ hc hi hd=>?_;refine .a 1 ?_;exact .nE (d:=72) rfl ⟨⟨72,_,rfl,rfl,rfl⟩,.refl _⟩
   ·refine .calm (fun _ _=>rfl) fun L σ hc hi hd=>?_;refine .a 1 ?_;exact .nE (d:=73) rfl ⟨⟨73,_,rfl,rfl,rfl⟩,.refl _⟩
   ·refine .calm (fun _ _=>rfl) fun L σ hc hi hd=>?_;refine .a 1 ?_;exact .nE (d:=74) rfl ⟨⟨74,_,rfl,rfl,rfl⟩,.refl _⟩
   ·refine .calm (fun _ _=>rfl) fun L σ hc hi hd=>?_;refine .a 1 ?_;exact .nE (d:=75) rfl ⟨⟨75,_,rfl,rfl,rfl⟩,.refl _⟩
   ·refine .calm (fun _ _=>rfl) fun L σ hc hi hd=>?_;refine .a 1 ?_;exact .nE (d:=76) rfl ⟨⟨76,_,rfl,rfl,rfl⟩,.refl _⟩
   ·refine .calm (fun _ _=>rfl) fun L σ hc hi hd=>?_;refine .wK [72,74,76] ?_;refine .c (x:=(.st [(1,(AA t5.1.f0)),(1,(AA t5.1.f1)),(4,(.ar 1 (p1.f1.toList.map AL))),(1,(AB false))])) (.build (qs:=[(0,(AA t5.1.f0)),(1,(AA t5.1.f1)),(2,(.ar 1 (p1.f1.toList.map AL)))]) rfl ⟨rfl,rfl,rfl,rfl,rfl,rfl,rfl,rfl,rfl,trivial⟩ Tryz.underlying127 rfl FH Eh (.cons rfl rfl rfl rfl (.cast (.fld0 .here) rfl) (.cons rfl rfl rfl rfl (.cast (.fldS (.fld0 .here)) rfl) (.cons rfl rfl (Az _ _) (Az _ _) (.cast (.fldS (.fldS (.fld0 .here))) rfl) .nil))) rfl) ?_;exact .nE (d:=77) rfl ⟨⟨77,_,rfl,rfl,rfl⟩,.refl _⟩
   ·refine .calm (fun _ _=>rfl) fun L σ hc hi hd=>?_;refine .wK [77] ?_;refine .lit (Z:=(.st [(1,(AA (0:Int))),(1,(AA (0:Int))),(4,(.ar 1 ((Vector.replicate 4 (0:Int)).toList.map AL))),(1,(AB false))])) (xs:=(([(AR.mk t5.1.f0 t5.1.f1 p1.f1 false)]:List AR).map A9)) (qs:=[(0,(A9 (AR.mk t5.1.f0 t5.1.f1 p1.f1 false)))]) rfl 78 rfl (by decide) rfl ⟨rfl,rfl,rfl,trivial⟩ Tryz.underlying78 Fe FH Eh rfl (by decide) (Aj (z:=7) [(A9 (AR.mk t5.1.f0 t5.1.f1 p1.f1 false))] rfl ⟨⟨rfl,rfl⟩,trivial⟩) rfl fun n24=>?_;refine .freezeS 0 [(78,(.fz 7 (([(AR.mk t5.1.f0 t5.1.f1 p1.f1 false)]:List AR).map A9)))] rfl ⟨Ad rfl,trivial⟩ ?_;exact .nE (d:=78) rfl ⟨⟨78,_,rfl,rfl,rfl⟩,.refl _⟩
   ·intro L σ hc hi hd;have m18:L 18=false:=hc.neg (i:=14) (j:=18) rfl (by rfl) hi;refine .heq (H':=((Z4 q2 p2)::(n4,(.mem (AJ p1)))::(Bb n8 t5.1)::(Z0 q0 t5.2.f0.f0 n7 t5.2.f0.f1.length t5.2.f0.f2 t5.2.f0.f3)::(Z5 n7 t5.2.f0.f1)::T0)) (by first|rfl|simp only[hi,m18,cond_true,cond_false]) ?_;refine .wK [70,78] ?_;refine .appendL (l:=t5.2.f0.f1) (m:=([(AR.mk t5.1.f0 t5.1.f1 p1.f1 false)]:List AR)) 4 79 rfl (by decide) rfl rfl rfl rfl rfl EJ.fz Tryz.underlying78 Tryz.underlying78 Fe Q9 FH rfl g26 (by decide) fun n25=>?_;have a14:A3 L 14 14=true:=rfl;have a18:A3 L 14 18=false:=m18;have u14:Cz σ 14 n25 14=n25:=rfl;exact .nE (d:=79) rfl ⟨(Cz σ 14 n25),(fun j hj=>match j,hj with |0,_=>rfl|1,_=>rfl|2,_=>rfl|3,_=>rfl|4,_=>rfl|5,_=>rfl|6,_=>rfl|7,_=>rfl|8,_=>rfl|9,_=>rfl|10,_=>rfl|11,_=>rfl|12,_=>rfl|13,_=>rfl|14,hj=>Bool.noConfusion (hj.symm.trans hi)|15,_=>rfl|16,_=>rfl|17,_=>rfl|18,_=>rfl|_+19,_=>rfl),(fun d' hd'=>⟨_,rfl,by cases hd';rfl⟩),.of_eq (B:=((Z4 q2 p2)::(n4,(.mem (AJ p1)))::(Bb n8 t5.1)::(Z0 q0 t5.2.f0.f0 n7 t5.2.f0.f1.length t5.2.f0.f2 t5.2.f0.f3)::(Z5 n25 (t5.2.f0.f1++([(AR.mk t5.1.f0 t5.1.f1 p1.f1 false)]:List AR)))::T0)) (by simp only[a14,a18,u14,cond_true,cond_false]) (.refl _)⟩
   ·refine .calm (fun _ _=>rfl) fun L σ hc hi hd=>?_;have y14:L 14=true:=BJ hd (i:=14) (by rfl);have m16:L 16=false:=hc.neg (i:=15) (j:=16) rfl (by rfl) hi;have m17:L 17=false:=hc.neg (i:=16) (j:=17) rfl (by rfl) m16;have m18:L 18=false:=hc.neg (i:=17) (j:=18) rfl (by rfl) m17;refine .heq (H':=((Z4 q2 p2)::(n4,(.mem (AJ p1)))::(Bb n8 t5.1)::(Z0 q0 t5.2.f0.f0 n7 t5.2.f0.f1.length t5.2.f0.f2 t5.2.f0.f3)::((σ 14),(.mem (.ar 7 ((t5.2.f0.f1++([(AR.mk t5.1.f0 t5.1.f1 p1.f1 false)]:List AR)).map A9))))::T0)) (by first|rfl|simp only[y14,m18,cond_true,cond_false]) ?_;refine .a 1 ?_;exact .nE (d:=80) rfl ⟨⟨80,_,rfl,rfl,rfl⟩,.of_eq (by first|rfl|simp only[y14,m18,cond_true,cond_false]) (.refl _)⟩
   ·refine .calm (fun _ _=>rfl) fun L σ hc hi hd=>?_;have y14:L 14=true:=BJ hd (i:=14) (by rfl);have m17:L 17=false:=hc.neg (i:=16) (j:=17) rfl (by rfl) hi;have m18:L 18=false:=hc.neg (i:=17) (j:=18) rfl (by rfl) m17;refine .heq (H':=((Z4 q2 p2)::(n4,(.mem (AJ p1)))::(Bb n8 t5.1)::(Z0 q0 t5.2.f0.f0 n7 t5.2.f0.f1.length t5.2.f0.f2 t5.2.f0.f3)::((σ 14),(.mem (.ar 7 ((t5.2.f0.f1++([(AR.mk t5.1.f0 t5.1.f1 p1.f1 false)]:List AR)).map A9))))::T0)) (by first|rfl|simp only[y14,m18,cond_true,cond_false]) ?_;refine .a 1 ?_;exact .nE (d:=81) rfl ⟨⟨81,_,rfl,rfl,rfl⟩,.of_eq (by first|rfl|simp only[y14,m18,cond_true,cond_false]) (.refl _)⟩
   ·refine .calm (fun _ _=>rfl) fun L σ hc hi hd=>?_;have y14:L 14=true:=BJ hd (i:=14) (by rfl);have m18:L 18=false:=hc.neg (i:=17) (j:=18) rfl (by rfl) hi;refine .heq (H':=((Z4 q2 p2)::(n4,(.mem (AJ p1)))::(Bb n8 t5.1)::(Z0 q0 t5.2.f0.f0 n7 t5.2.f0.f1.length t5.2.f0.f2 t5.2.f0.f3)::((σ 14),(.mem (.ar 7 ((t5.2.f0.f1++([(AR.mk t5.1.f0 t5.1.f1 p1.f1 false)]:List AR)).map A9))))::T0)) (by first|rfl|simp only[y14,m18,cond_true,cond_false]) ?_;refine .a 1 ?_;exact .nE (d:=82) rfl ⟨⟨82,_,rfl,rfl,rfl⟩,.of_eq (by first|rfl|simp only[y14,m18,cond_true,cond_false]) (.refl _)⟩
   ·intro L σ hc hi hd;have y14:L 14=true:=BJ hd (i:=14) (by rfl);refine .heq (H':=((Z4 q2 p2)::(n4,(.mem (AJ p1)))::(Bb n8 t5.1)::(Z0 q0 t5.2.f0.f0 n7 t5.2.f0.f1.length t5.2.f0.f2 t5.2.f0.f3)::((σ 14),(.mem (.ar 7 ((t5.2.f0.f1++([(AR.mk t5.1.f0 t5.1.f1 p1.f1 false)]:List AR)).map A9))))::T0)) (by first|rfl|simp only[hi,y14,cond_true,cond_false]) ?_;refine .wK [79,82] ?_;refine .store 3 rfl rfl rfl rfl rfl rfl (.cast (.fld0 (.fldS (.fld0 .here))) rfl) rfl rfl R0 rfl ?_;have a14:A3 L 18 14=true:=y14;have a18:A3 L 18 18=true:=rfl;exact .n0 ⟨σ,(fun _ _=>rfl),(fun d' hd'=>by cases hd'),.of_eq (B:=((Z4 q2 p2)::(n4,(.mem (AJ p1)))::(Bb n8 t5.1)::(Z0 q0 t5.2.f0.f0 (σ 14) (t5.2.f0.f1++([(AR.mk t5.1.f0 t5.1.f1 p1.f1 false)]:List AR)).length t5.2.f0.f2 t5.2.f0.f3)::((σ 14),(.mem (.ar 7 ((t5.2.f0.f1++([(AR.mk t5.1.f0 t5.1.f1 p1.f1 false)]:List AR)).map A9))))::T0)) (by simp only[a14,a18,cond_true,cond_false]) (.refl _)⟩
   generalize σ 14=n25;refine .nH [2,4,7,8] (H':=((Z0 q0 t5.2.f0.f0 n25 (t5.2.f0.f1++([(AR.mk t5.1.f0 t5.1.f1 p1.f1 false)]:List AR)).length t5.2.f0.f2 t5.2.f0.f3)::(Z5 n25 (t5.2.f0.f1++([(AR.mk t5.1.f0 t5.1.f1 p1.f1 false)]:List AR)))::(Z4 q2 p2)::(n4,(.mem (AJ p1)))::(Bb n8 t5.1)::T0)) (.cons 3 rfl (.cons 3 rfl (.cons 0 rfl (.cons 0 rfl (.cons 0 rfl (.refl _)))))) ?_;exact⟨n25,t5.2.f0.f0,(t5.2.f0.f1++([(AR.mk t5.1.f0 t5.1.f1 p1.f1 false)]:List AR)),t5.2.f0.f2,t5.2.f0.f3,rfl,rfl,h⟩
  refine .a 6 ?_;rcases oi h with⟨c27,h⟩|⟨c27,h⟩
  ·refine .a 2 ?_;obtain⟨g28,h⟩:=AD h;obtain⟨g29,h⟩:=AD h
   refine .regEff (by rfl) (by decide+kernel) (fun (σ:Nat→Nat)=>([(.own q2 0 p2.length),(AA (p2.length:Int)),(AA (AH ((p2.length:Int) - (2:Int)))),(.ptr q2 ((AH ((p2.length:Int) - (2:Int))).toNat*2+0)),(Cb (AC p2 (AH ((p2.length:Int) - (2:Int))))),(.own q2 0 p2.length),(AA (p2.length:Int)),(AA (AH ((p2.length:Int) - (1:Int)))),(.ptr q2 ((AH ((p2.length:Int) - (1:Int))).toNat*2+0)),(Cb (AC p2 (AH ((p2.length:Int) - (1:Int))))),(.ptr (σ 10) 0),(.ptr (σ 11) 0),(.fl undef),(.fl undef)]:List AV)) (fun (L:Nat→Bool) (σ:Nat→Nat)=>((Z0 q0 t5.2.f0.f0 n7 t5.2.f0.f1.length t5.2.f0.f2 t5.2.f0.f3)::(Z5 n7 t5.2.f0.f1)::(Z4 q2 p2)::(n4,(.mem (AJ p1)))::(Bb n8 t5.1)::(bif L 10 then(bif L 11 then(bif L 12 then(bif L 13 then(((σ 11),(.mem (Cb (AC p2 (AH ((p2.length:Int) - (1:Int)))))))::((σ 10),(.mem (Cb (AC p2 (AH ((p2.length:Int) - (2:Int)))))))::T0)else(((σ 11),(Hy (0:Int)))::((σ 10),(.mem (Cb (AC p2 (AH ((p2.length:Int) - (2:Int)))))))::T0))else(((σ 11),(Hy (0:Int)))::((σ 10),(Hy (0:Int)))::T0))else(((σ 10),(Hy (0:Int)))::T0))else(bif L 11 then(((σ 11),(Hy (0:Int)))::T0)else(T0))):AN)) [(0,(.ptr q0 0)),(2,(.own q2 0 p2.length)),(4,(.ptr n4 0)),(7,(AA (p2.length:Int))),(8,(.ptr n8 0))] ⟨rfl,rfl,rfl,rfl,rfl,trivial⟩ (fun _=>rfl) (fun σ=>(.refl _)) ⟨?_,?_,?_,?_,?_,?_,?_,?_,?_,?_,?_,?_,?_,?_,trivial⟩ (fun σ=>[(0,(.ptr q0 0)),(2,(.own q2 0 p2.length)),(4,(.ptr n4 0)),(7,(AA (p2.length:Int))),(8,(.ptr n8 0)),(9,(.ptr (σ 10) 0)),(10,(.ptr (σ 11) 0))]) (fun σ=>((Z0 q0 t5.2.f0.f0 n7 t5.2.f0.f1.length t5.2.f0.f2 t5.2.f0.f3)::(Z5 n7 t5.2.f0.f1)::(Z4 q2 p2)::(n4,(.mem (AJ p1)))::(Bb n8 t5.1)::((σ 11),(.mem (Cb (AC p2 (AH ((p2.length:Int) - (1:Int)))))))::((σ 10),(.mem (Cb (AC p2 (AH ((p2.length:Int) - (2:Int)))))))::T0)) (fun σ=>⟨rfl,rfl,rfl,rfl,rfl,rfl,rfl,trivial⟩) (fun σ=>.refl _) (fun σ=>?_)
   ·refine .calm (fun _ _=>rfl) fun L σ hc hi hd=>?_;refine .a 1 ?_;exact .nE (d:=85) rfl ⟨⟨85,_,rfl,rfl,rfl⟩,.refl _⟩
   ·refine .calm (fun _ _=>rfl) fun L σ hc hi hd=>?_;refine .a 1 ?_;exact .nE (d:=86) rfl ⟨⟨86,_,rfl,rfl,rfl⟩,.refl _⟩
   ·refine .calm (fun _ _=>rfl) fun L σ hc hi hd=>?_;refine .a 1 ?_;exact .nE (d:=87) rfl ⟨⟨87,_,rfl,rfl,rfl⟩,.refl _⟩
   ·refine .calm (fun _ _=>rfl) fun L σ hc hi hd=>?_;refine .a 1 ?_;exact .nE (d:=88) rfl ⟨⟨88,_,rfl,rfl,rfl⟩,.refl _⟩
   ·refine .calm (fun _ _=>rfl) fun L σ hc hi hd=>?_;refine .wK [88] ?_;refine .c (.load 2 rfl rfl rfl (.cast (.lidx (AH ((p2.length:Int) - (2:Int))) g28.1 g28.2 .here) (by omega)) H3 CJ) ?_;exact .nE (d:=89) rfl ⟨⟨89,_,rfl,rfl,rfl⟩,.refl _⟩
   ·refine .calm (fun _ _=>rfl) fun L σ hc hi hd=>?_;refine .a 1 ?_;exact .nE (d:=90) rfl ⟨⟨90,_,rfl,rfl,rfl⟩,.refl _⟩
   ·refine .calm (fun _ _=>rfl) fun L σ hc hi hd=>?_;refine .a 1 ?_;exact .nE (d:=91) rfl ⟨⟨91,_,rfl,rfl,rfl⟩,.refl _⟩
   ·refine .calm (fun _ _=>rfl) fun L σ hc hi hd=>?_;refine .a 1 ?_;exact .nE (d:=92) rfl ⟨⟨92,_,rfl,rfl,rfl⟩,.refl _⟩
   ·refine .calm (fun _ _=>rfl) fun L σ hc hi hd=>?_;refine .a 1 ?_;exact .nE (d:=93) rfl ⟨⟨93,_,rfl,rfl,rfl⟩,.refl _⟩
   ·refine .calm (fun _ _=>rfl) fun L σ hc hi hd=>?_;refine .wK [93] ?_;refine .c (.load 2 rfl rfl rfl (.cast (.lidx (AH ((p2.length:Int) - (1:Int))) g29.1 g29.2 .here) (by omega)) H3 CJ) ?_;exact .nE (d:=94) rfl ⟨⟨94,_,rfl,rfl,rfl⟩,.refl _⟩
   ·intro L σ hc hi hd;have m12:L 12=false:=hc.neg (i:=10) (j:=12) rfl (by rfl) hi;have m13:L 13=false:=hc.neg (i:=10) (j:=13) rfl (by rfl) hi
    cases b11:L 11 with
    | true=>
      refine .heq (H':=((Z0 q0 t5.2.f0.f0 n7 t5.2.f0.f1.length t5.2.f0.f2 t5.2.f0.f3)::(Z5 n7 t5.2.f0.f1)::(Z4 q2 p2)::(n4,(.mem (AJ p1)))::(Bb n8 t5.1)::((σ 11),(Hy (0:Int)))::T0)) (by first|rfl|simp only[hi,b11,m12,m13,cond_true,cond_false]) ?_;refine .wK [] ?_;refine .alloc rfl 9 rfl (by decide) rfl En DY fun n30=>?_;have a10:A3 L 10 10=true:=rfl;have a11:A3 L 10 11=true:=b11;have a12:A3 L 10 12=false:=m12;have a13:A3 L 10 13=false:=m13;have u10:Cz σ 10 n30 10=n30:=rfl;have u11:Cz σ 10 n30 11=σ 11:=rfl;exact .nE (d:=9) rfl ⟨(Cz σ 10 n30),(fun j hj=>match j,hj with |0,_=>rfl|1,_=>rfl|2,_=>rfl|3,_=>rfl|4,_=>rfl|5,_=>rfl|6,_=>rfl|7,_=>rfl|8,_=>rfl|9,_=>rfl|10,hj=>Bool.noConfusion (hj.symm.trans hi)|11,_=>rfl|12,_=>rfl|13,_=>rfl|_+14,_=>rfl),(fun d' hd'=>⟨_,rfl,by cases hd';rfl⟩),.of_eq (B:=((Z0 q0 t5.2.f0.f0 n7 t5.2.f0.f1.length t5.2.f0.f2 t5.2.f0.f3)::(Z5 n7 t5.2.f0.f1)::(Z4 q2 p2)::(n4,(.mem (AJ p1)))::(Bb n8 t5.1)::((σ 11),(Hy (0:Int)))::(n30,(Hy (0:Int)))::T0)) (by simp only[a10,a11,a12,a13,u10,u11,cond_true,cond_false]) (.cons 1 rfl (.cons 1 rfl (.cons 1 rfl (.cons 1 rfl (.cons 1 rfl (.cons 1 rfl (.cons 0 rfl (.refl _))))))))⟩
    | false=>
      refine .heq (H':=((Z0 q0 t5.2.f0.f0 n7 t5.2.f0.f1.length t5.2.f0.f2 t5.2.f0.f3)::(Z5 n7 t5.2.f0.f1)::(Z4 q2 p2)::(n4,(.mem (AJ p1)))::(Bb n8 t5.1)::T0)) (by first|rfl|simp only[hi,b11,m12,m13,cond_true,cond_false]) ?_;refine .wK [] ?_;refine .alloc rfl 9 rfl (by decide) rfl En DY fun n30=>?_;have a10:A3 L 10 10=true:=rfl;have a11:A3 L 10 11=false:=b11;have a12:A3 L 10 12=false:=m12;have a13:A3 L 10 13=false:=m13;have u10:Cz σ 10 n30 10=n30:=rfl;have u11:Cz σ 10 n30 11=σ 11:=rfl;exact .nE (d:=9) rfl ⟨(Cz σ 10 n30),(fun j hj=>match j,hj with |0,_=>rfl|1,_=>rfl|2,_=>rfl|3,_=>rfl|4,_=>rfl|5,_=>rfl|6,_=>rfl|7,_=>rfl|8,_=>rfl|9,_=>rfl|10,hj=>Bool.noConfusion (hj.symm.trans hi)|11,_=>rfl|12,_=>rfl|13,_=>rfl|_+14,_=>rfl),(fun d' hd'=>⟨_,rfl,by cases hd';rfl⟩),.of_eq (B:=((Z0 q0 t5.2.f0.f0 n7 t5.2.f0.f1.length t5.2.f0.f2 t5.2.f0.f3)::(Z5 n7 t5.2.f0.f1)::(Z4 q2 p2)::(n4,(.mem (AJ p1)))::(Bb n8 t5.1)::(n30,(Hy (0:Int)))::T0)) (by simp only[a10,a11,a12,a13,u10,u11,cond_true,cond_false]) (.cons 1 rfl (.cons 1 rfl (.cons 1 rfl (.cons 1 rfl (.cons 1 rfl (.cons 0 rfl (.refl _)))))))⟩
   ·intro L σ hc hi hd;have m12:L 12=false:=hc.neg (i:=11) (j:=12) rfl (by rfl) hi;have m13:L 13=false:=hc.neg (i:=11) (j:=13) rfl (by rfl) hi
    cases b10:L 10 with
    | true=>
      refine .heq (H':=((Z0 q0 t5.2.f0.f0 n7 t5.2.f0.f1.length t5.2.f0.f2 t5.2.f0.f3)::(Z5 n7 t5.2.f0.f1)::(Z4 q2 p2)::(n4,(.mem (AJ p1)))::(Bb n8 t5.1)::((σ 10),(Hy (0:Int)))::T0)) (by first|rfl|simp only[hi,b10,m12,m13,cond_true,cond_false]) ?_;refine .wK [] ?_;refine .alloc rfl 10 rfl (by decide) rfl En DY fun n31=>?_;have a10:A3 L 11 10=true:=b10;have a11:A3 L 11 11=true:=rfl;have a12:A3 L 11 12=false:=m12;have a13:A3 L 11 13=false:=m13;have u10:Cz σ 11 n31 10=σ 10:=rfl;have u11:Cz σ 11 n31 11=n31:=rfl;exact .nE (d:=10) rfl ⟨(Cz σ 11 n31),(fun j hj=>match j,hj with |0,_=>rfl|1,_=>rfl|2,_=>rfl|3,_=>rfl|4,_=>rfl|5,_=>rfl|6,_=>rfl|7,_=>rfl|8,_=>rfl|9,_=>rfl|10,_=>rfl|11,hj=>Bool.noConfusion (hj.symm.trans hi)|12,_=>rfl|13,_=>rfl|_+14,_=>rfl),(fun d' hd'=>⟨_,rfl,by cases hd';rfl⟩),.of_eq (B:=((Z0 q0 t5.2.f0.f0 n7 t5.2.f0.f1.length t5.2.f0.f2 t5.2.f0.f3)::(Z5 n7 t5.2.f0.f1)::(Z4 q2 p2)::(n4,(.mem (AJ p1)))::(Bb n8 t5.1)::(n31,(Hy (0:Int)))::((σ 10),(Hy (0:Int)))::T0)) (by simp only[a10,a11,a12,a13,u10,u11,cond_true,cond_false]) (.cons 1 rfl (.cons 1 rfl (.cons 1 rfl (.cons 1 rfl (.cons 1 rfl (.cons 0 rfl (.cons 0 rfl (.refl _))))))))⟩
    | false=>
      refine .heq (H':=((Z0 q0 t5.2.f0.f0 n7 t5.2.f0.f1.length t5.2.f0.f2 t5.2.f0.f3)::(Z5 n7 t5.2.f0.f1)::(Z4 q2 p2)::(n4,(.mem (AJ p1)))::(Bb n8 t5.1)::T0)) (by first|rfl|simp only[hi,b10,m12,m13,cond_true,cond_false]) ?_;refine .wK [] ?_;refine .alloc rfl 10 rfl (by decide) rfl En DY fun n31=>?_;have a10:A3 L 11 10=false:=b10;have a11:A3 L 11 11=true:=rfl;have a12:A3 L 11 12=false:=m12;have a13:A3 L 11 13=false:=m13;have u10:Cz σ 11 n31 10=σ 10:=rfl;have u11:Cz σ 11 n31 11=n31:=rfl;exact .nE (d:=10) rfl ⟨(Cz σ 11 n31),(fun j hj=>match j,hj with |0,_=>rfl|1,_=>rfl|2,_=>rfl|3,_=>rfl|4,_=>rfl|5,_=>rfl|6,_=>rfl|7,_=>rfl|8,_=>rfl|9,_=>rfl|10,_=>rfl|11,hj=>Bool.noConfusion (hj.symm.trans hi)|12,_=>rfl|13,_=>rfl|_+14,_=>rfl),(fun d' hd'=>⟨_,rfl,by cases hd';rfl⟩),.of_eq (B:=((Z0 q0 t5.2.f0.f0 n7 t5.2.f0.f1.length t5.2.f0.f2 t5.2.f0.f3)::(Z5 n7 t5.2.f0.f1)::(Z4 q2 p2)::(n4,(.mem (AJ p1)))::(Bb n8 t5.1)::(n31,(Hy (0:Int)))::T0)) (by simp only[a10,a11,a12,a13,u10,u11,cond_true,cond_false]) (.cons 1 rfl (.cons 1 rfl (.cons 1 rfl (.cons 1 rfl (.cons 1 rfl (.cons 0 rfl (.refl _)))))))⟩
   ·intro L σ hc hi hd;have y10:L 10=true:=BJ hd (i:=10) (by rfl);have y11:L 11=true:=BJ hd (i:=11) (by rfl);have m13:L 13=false:=hc.neg (i:=12) (j:=13) rfl (by rfl) hi;refine .heq (H':=((Z0 q0 t5.2.f0.f0 n7 t5.2.f0.f1.length t5.2.f0.f2 t5.2.f0.f3)::(Z5 n7 t5.2.f0.f1)::(Z4 q2 p2)::(n4,(.mem (AJ p1)))::(Bb n8 t5.1)::((σ 11),(Hy (0:Int)))::((σ 10),(Hy (0:Int)))::T0)) (by first|rfl|simp only[hi,y10,y11,m13,cond_true,cond_false]) ?_;refine .wK [9,89] ?_;refine .store 6 rfl rfl rfl rfl rfl rfl (.cast .here rfl) rfl rfl CJ rfl ?_;have a10:A3 L 12 10=true:=y10;have a11:A3 L 12 11=true:=y11;have a12:A3 L 12 12=true:=rfl;have a13:A3 L 12 13=false:=m13;exact .n0 ⟨σ,(fun _ _=>rfl),(fun d' hd'=>by cases hd'),.of_eq (B:=((Z0 q0 t5.2.f0.f0 n7 t5.2.f0.f1.length t5.2.f0.f2 t5.2.f0.f3)::(Z5 n7 t5.2.f0.f1)::(Z4 q2 p2)::(n4,(.mem (AJ p1)))::(Bb n8 t5.1)::((σ 11),(Hy (0:Int)))::((σ 10),(.mem (Cb (AC p2 (AH ((p2.length:Int) - (2:Int)))))))::T0)) (by simp only[a10,a11,a12,a13,cond_true,cond_false]) (.refl _)⟩
   ·intro L σ hc hi hd;have y10:L 10=true:=BJ hd (i:=10) (by rfl);have y11:L 11=true:=BJ hd (i:=11) (by rfl);have y12:L 12=true:=BJ hd (i:=12) (by rfl);refine .heq (H':=((Z0 q0 t5.2.f0.f0 n7 t5.2.f0.f1.length t5.2.f0.f2 t5.2.f0.f3)::(Z5 n7 t5.2.f0.f1)::(Z4 q2 p2)::(n4,(.mem (AJ p1)))::(Bb n8 t5.1)::((σ 11),(Hy (0:Int)))::((σ 10),(.mem (Cb (AC p2 (AH ((p2.length:Int) - (2:Int)))))))::T0)) (by first|rfl|simp only[hi,y10,y11,y12,cond_true,cond_false]) ?_;refine .wK [10,94] ?_;refine .store 5 rfl rfl rfl rfl rfl rfl (.cast .here rfl) rfl rfl CJ rfl ?_;have a10:A3 L 13 10=true:=y10;have a11:A3 L 13 11=true:=y11;have a12:A3 L 13 12=true:=y12;have a13:A3 L 13 13=true:=rfl;exact .n0 ⟨σ,(fun _ _=>rfl),(fun d' hd'=>by cases hd'),.of_eq (B:=((Z0 q0 t5.2.f0.f0 n7 t5.2.f0.f1.length t5.2.f0.f2 t5.2.f0.f3)::(Z5 n7 t5.2.f0.f1)::(Z4 q2 p2)::(n4,(.mem (AJ p1)))::(Bb n8 t5.1)::((σ 11),(.mem (Cb (AC p2 (AH ((p2.length:Int) - (1:Int)))))))::((σ 10),(.mem (Cb (AC p2 (AH ((p2.length:Int) - (2:Int)))))))::T0)) (by simp only[a10,a11,a12,a13,cond_true,cond_false]) (.refl _)⟩
   generalize σ 10=n30;generalize σ 11=n31;refine .nH [0,2,4,7,8,9,10] (H':=((Z0 q0 t5.2.f0.f0 n7 t5.2.f0.f1.length t5.2.f0.f2 t5.2.f0.f3)::(Z5 n7 t5.2.f0.f1)::(Z4 q2 p2)::(n4,(.mem (AJ p1)))::(Bb n8 t5.1)::(Bb n30 (AC p2 (AH ((p2.length:Int) - (2:Int)))))::(Bb n31 (AC p2 (AH ((p2.length:Int) - (1:Int)))))::T0)) (.cons 0 rfl (.cons 0 rfl (.cons 0 rfl (.cons 0 rfl (.cons 0 rfl (.cons 1 rfl (.cons 0 rfl (.refl _)))))))) ?_;refine .a 7 ?_;obtain⟨t32,et32,h⟩:=ob h;refine .callH [(.ptr q0 0),(AA t5.1.f0),(AA ((AC p2 (AH ((p2.length:Int) - (2:Int)))).f0))] ((Z0 q0 t5.2.f0.f0 n7 t5.2.f0.f1.length t5.2.f0.f2 t5.2.f0.f3)::(Z5 n7 t5.2.f0.f1)::(Z4 q2 p2)::(n4,(.mem (AJ p1)))::(Bb n8 t5.1)::(Bb n30 (AC p2 (AH ((p2.length:Int) - (2:Int)))))::(Bb n31 (AC p2 (AH ((p2.length:Int) - (1:Int)))))::T0) _ rfl rfl rfl 100 rfl (by decide) Hu ⟨rfl,rfl,rfl,rfl,rfl,rfl,trivial⟩ (.cons 0 rfl (.cons 0 rfl (.refl _))) (Bp et32) ?_;rintro _ _ ⟨n34,rfl,hs33⟩;refine .wH [0,2,4,7,8,9,10,95,96,97,98,99,100] hs33 ?_;refine .a 8 ?_;obtain⟨t35,et35,h⟩:=ob h
   refine .callH [(.ptr q0 0),(AA ((AC p2 (AH ((p2.length:Int) - (2:Int)))).f1)),(AA ((AC p2 (AH ((p2.length:Int) - (1:Int)))).f0))] ((Z0 q0 t32.f0.f0 n34 t32.f0.f1.length t32.f0.f2 t32.f0.f3)::(Z5 n34 t32.f0.f1)::(Z4 q2 p2)::(n4,(.mem (AJ p1)))::(Bb n8 t5.1)::(Bb n30 (AC p2 (AH ((p2.length:Int) - (2:Int)))))::(Bb n31 (AC p2 (AH ((p2.length:Int) - (1:Int)))))::T0) _ rfl rfl rfl 106 rfl (by decide) Hu ⟨rfl,rfl,rfl,rfl,rfl,rfl,trivial⟩ (.cons 0 rfl (.cons 0 rfl (.refl _))) (Bp et35) ?_;rintro _ _ ⟨n37,rfl,hs36⟩;refine .wH [0,2,4,7,8,9,10,101,102,103,104,105,106] hs36 ?_;refine .nH [0,2,4,7,8,10] (H':=((Z0 q0 t35.f0.f0 n37 t35.f0.f1.length t35.f0.f2 t35.f0.f3)::(Z5 n37 t35.f0.f1)::(Z4 q2 p2)::(n4,(.mem (AJ p1)))::(Bb n8 t5.1)::(Bb n31 (AC p2 (AH ((p2.length:Int) - (1:Int)))))::T0)) (.cons 0 rfl (.cons 0 rfl (.cons 0 rfl (.cons 0 rfl (.cons 0 rfl (.cons 1 rfl (.drop (.refl _)))))))) ?_;refine .a 6 ?_;obtain⟨t38,et38,h⟩:=ob h;refine .callH [(.ptr q0 0),(AA ((AC p2 (AH ((p2.length:Int) - (1:Int)))).f1)),(AA t5.1.f1)] ((Z0 q0 t35.f0.f0 n37 t35.f0.f1.length t35.f0.f2 t35.f0.f3)::(Z5 n37 t35.f0.f1)::(Z4 q2 p2)::(n4,(.mem (AJ p1)))::(Bb n8 t5.1)::(Bb n31 (AC p2 (AH ((p2.length:Int) - (1:Int)))))::T0) _ rfl rfl rfl 112 rfl (by decide) Hu ⟨rfl,rfl,rfl,rfl,rfl,rfl,trivial⟩ (.cons 0 rfl (.cons 0 rfl (.refl _))) (Bp et38) ?_;rintro _ _ ⟨n40,rfl,hs39⟩;refine .wH [0,2,4,7,8,10,107,108,109,110,111,112] hs39 ?_
   refine .nH [2,4,7,8] (H':=((Z0 q0 t38.f0.f0 n40 t38.f0.f1.length t38.f0.f2 t38.f0.f3)::(Z5 n40 t38.f0.f1)::(Z4 q2 p2)::(n4,(.mem (AJ p1)))::(Bb n8 t5.1)::T0)) (.cons 0 rfl (.cons 0 rfl (.cons 0 rfl (.cons 0 rfl (.cons 0 rfl (.drop (.refl _))))))) ?_;exact⟨n40,t38.f0.f0,t38.f0.f1,t38.f0.f2,t38.f0.f3,rfl,rfl,h⟩
  refine .a 6 ?_;rcases oi h with⟨c41,h⟩|⟨c41,h⟩
  ·refine .a 6 ?_;obtain⟨g42,h⟩:=AD h;refine .c (x:=.own q2 ((AH ((p2.length:Int) - (2:Int))).toNat) (p2.length - (AH ((p2.length:Int) - (2:Int))).toNat)) (.sufO 2 rfl rfl rfl rfl g42 Tryz.underlying117 CJ) ?_;refine .a 4 ?_;refine .wK [0,2,4,7,8,118,119,120] ?_;refine .loop (fun kq ρ H=>∃ (n44:Nat) (x43:Int) (x45:(List AR)) (x46:Int) (x47:Int) (x48:Int),ρ=[(0,(.ptr q0 0)),(2,(.own q2 0 p2.length)),(4,(.ptr n4 0)),(7,(AA (p2.length:Int))),(8,(.ptr n8 0)),(118,(.own q2 ((AH ((p2.length:Int) - (2:Int))).toNat) (p2.length - (AH ((p2.length:Int) - (2:Int))).toNat))),(119,(AA (((p2.length - (AH ((p2.length:Int) - (2:Int))).toNat):Nat):Int))),(120,(AA x48))]∧H=((Z0 q0 x43 n44 x45.length x46 x47)::(Z5 n44 x45)::(Z4 q2 p2)::(n4,(.mem (AJ p1)))::(Bb n8 t5.1)::T0)∧Cj k p1 p2 t5 kq x43 x45 x46 x47 x48=some r) k ⟨n7,t5.2.f0.f0,t5.2.f0.f1,t5.2.f0.f2,t5.2.f0.f3,(0:Int),rfl,rfl,h⟩ ?_;rintro kq50 _ _ ⟨n44,x43,x45,x46,x47,x48,rfl,rfl,h⟩
   cases kq50 with
   | zero=>rw[Cj.eq_1]at h;cases h
   | succ kq50=>
   rw[Cj.eq_2]at h;generalize hrec49:Cj k p1 p2 t5 kq50=rec49 at h;refine .a 5 ?_;rcases oi h with⟨c51,h⟩|⟨c51,h⟩
   ·refine .a 6 ?_;obtain⟨g52,h⟩:=AD h;have hx53:0≤((AH ((p2.length:Int) - (2:Int)))+x48)∧((AH ((p2.length:Int) - (2:Int)))+x48)<(p2.length:Int):=by omega
    refine .c (x:=.ptr q2 (((AH ((p2.length:Int) - (2:Int)))+x48).toNat*2+0)) (.idxSufO 2 rfl rfl rfl rfl g42.1 g52 Tryz.underlying117 CJ) ?_;refine .c (.load 2 rfl rfl rfl (.cast (.lidx ((AH ((p2.length:Int) - (2:Int)))+x48) hx53.1 hx53.2 .here) (by omega)) H3 CJ) ?_;refine .alloc rfl 12 rfl (by decide) rfl En DY fun n54=>?_;refine .store 0 rfl rfl rfl rfl rfl rfl (.cast .here rfl) rfl rfl CJ rfl ?_;refine .nH [0,2,4,7,8,12,118,119,120] (H':=((Z0 q0 x43 n44 x45.length x46 x47)::(Z5 n44 x45)::(Z4 q2 p2)::(n4,(.mem (AJ p1)))::(Bb n8 t5.1)::(Bb n54 (AC p2 ((AH ((p2.length:Int) - (2:Int)))+x48)))::T0)) (.cons 1 rfl (.cons 1 rfl (.cons 1 rfl (.cons 1 rfl (.cons 1 rfl (.cons 0 rfl (.refl _))))))) ?_;refine .a 7 ?_;obtain⟨t55,et55,h⟩:=ob h;refine .callH [(.ptr q0 0),(AA t5.1.f0),(AA ((AC p2 ((AH ((p2.length:Int) - (2:Int)))+x48)).f0))] ((Z0 q0 x43 n44 x45.length x46 x47)::(Z5 n44 x45)::(Z4 q2 p2)::(n4,(.mem (AJ p1)))::(Bb n8 t5.1)::(Bb n54 (AC p2 ((AH ((p2.length:Int) - (2:Int)))+x48)))::T0) _ rfl rfl rfl 129 rfl (by decide) Hu ⟨rfl,rfl,rfl,rfl,rfl,rfl,trivial⟩ (.cons 0 rfl (.cons 0 rfl (.refl _))) (Bp et55) ?_;rintro _ _ ⟨n57,rfl,hs56⟩;refine .wH [0,2,4,7,8,12,118,119,120,124,125,126,127,128,129] hs56 ?_;refine .a 7 ?_;obtain⟨t58,et58,h⟩:=ob h
    refine .callH [(.ptr q0 0),(AA ((AC p2 ((AH ((p2.length:Int) - (2:Int)))+x48)).f1)),(AA t5.1.f1)] ((Z0 q0 t55.f0.f0 n57 t55.f0.f1.length t55.f0.f2 t55.f0.f3)::(Z5 n57 t55.f0.f1)::(Z4 q2 p2)::(n4,(.mem (AJ p1)))::(Bb n8 t5.1)::(Bb n54 (AC p2 ((AH ((p2.length:Int) - (2:Int)))+x48)))::T0) _ rfl rfl rfl 135 rfl (by decide) Hu ⟨rfl,rfl,rfl,rfl,rfl,rfl,trivial⟩ (.cons 0 rfl (.cons 0 rfl (.refl _))) (Bp et58) ?_;rintro _ _ ⟨n60,rfl,hs59⟩;refine .wH [0,2,4,7,8,12,118,119,120,130,131,132,133,134,135] hs59 ?_;refine .nH [0,2,4,7,8,118,119,120] (H':=((Z0 q0 t58.f0.f0 n60 t58.f0.f1.length t58.f0.f2 t58.f0.f3)::(Z5 n60 t58.f0.f1)::(Z4 q2 p2)::(n4,(.mem (AJ p1)))::(Bb n8 t5.1)::T0)) (.cons 0 rfl (.cons 0 rfl (.cons 0 rfl (.cons 0 rfl (.cons 0 rfl (.drop (.refl _))))))) ?_;refine .a 3 ?_;refine .nK [0,2,4,7,8,118,119,120] ?_;exact⟨kq50,Nat.lt_succ_self _,n60,t58.f0.f0,t58.f0.f1,t58.f0.f2,t58.f0.f3,(AH (x48+(1:Int))),rfl,rfl,by rw[hrec49];exact h⟩
   refine .a 1 ?_;refine .eK [2,4,7,8] ?_;exact⟨n44,x43,x45,x46,x47,rfl,rfl,h⟩
  refine .condN _ rfl c41 ?_;refine .sr ?_;refine .mv rfl rfl ?_;refine .mv rfl rfl ?_;refine .c (x:=AA (AH ((p2.length:Int) - (1:Int)))) (.int rfl rfl rfl rfl) ?_;obtain⟨g61,h⟩:=AD h;refine .c (.idxO 2 rfl rfl rfl rfl g61 Tryz.underlying117 CJ) ?_;refine .c (.load 2 rfl rfl rfl (.cast (.lidx (AH ((p2.length:Int) - (1:Int))) g61.1 g61.2 .here) (by omega)) H3 CJ) ?_;refine .alloc rfl 13 rfl (by decide) rfl En DY fun n62=>?_;refine .store 0 rfl rfl rfl rfl rfl rfl (.cast .here rfl) rfl rfl CJ rfl ?_;refine .nH [0,2,4,7,8,13] (H':=((Z0 q0 t5.2.f0.f0 n7 t5.2.f0.f1.length t5.2.f0.f2 t5.2.f0.f3)::(Z5 n7 t5.2.f0.f1)::(Z4 q2 p2)::(n4,(.mem (AJ p1)))::(Bb n8 t5.1)::(Bb n62 (AC p2 (AH ((p2.length:Int) - (1:Int)))))::T0)) (.cons 1 rfl (.cons 1 rfl (.cons 1 rfl (.cons 1 rfl (.cons 1 rfl (.cons 0 rfl (.refl _))))))) ?_;refine .a 7 ?_;obtain⟨t63,et63,h⟩:=ob h;refine .callH [(.ptr q0 0),(AA t5.1.f0),(AA ((AC p2 (AH ((p2.length:Int) - (1:Int)))).f0))] ((Z0 q0 t5.2.f0.f0 n7 t5.2.f0.f1.length t5.2.f0.f2 t5.2.f0.f3)::(Z5 n7 t5.2.f0.f1)::(Z4 q2 p2)::(n4,(.mem (AJ p1)))::(Bb n8 t5.1)::(Bb n62 (AC p2 (AH ((p2.length:Int) - (1:Int)))))::T0) _ rfl rfl rfl 30 rfl (by decide) Hu ⟨rfl,rfl,rfl,rfl,rfl,rfl,trivial⟩ (.cons 0 rfl (.cons 0 rfl (.refl _))) (Bp et63) ?_;rintro _ _ ⟨n65,rfl,hs64⟩;refine .wH [0,2,4,7,8,13,25,26,27,28,29,30] hs64 ?_;refine .a 8 ?_;obtain⟨t66,et66,h⟩:=ob h
  refine .callH [(.ptr q0 0),(AA ((AC p2 (AH ((p2.length:Int) - (1:Int)))).f1)),(AA t5.1.f1)] ((Z0 q0 t63.f0.f0 n65 t63.f0.f1.length t63.f0.f2 t63.f0.f3)::(Z5 n65 t63.f0.f1)::(Z4 q2 p2)::(n4,(.mem (AJ p1)))::(Bb n8 t5.1)::(Bb n62 (AC p2 (AH ((p2.length:Int) - (1:Int)))))::T0) _ rfl rfl rfl 36 rfl (by decide) Hu ⟨rfl,rfl,rfl,rfl,rfl,rfl,trivial⟩ (.cons 0 rfl (.cons 0 rfl (.refl _))) (Bp et66) ?_;rintro _ _ ⟨n68,rfl,hs67⟩;refine .wH [0,2,4,7,8,13,31,32,33,34,35,36] hs67 ?_;refine .nK [0,2,4,7,8,13] ?_;refine .seq_mid (fun ρ H=>∃ (n70:Nat) (x69:Int) (x71:(List AR)) (x72:Int) (x73:Int),ρ=[(0,(.ptr q0 0)),(2,(.own q2 0 p2.length)),(4,(.ptr n4 0)),(7,(AA (p2.length:Int))),(8,(.ptr n8 0))]∧H=((Z0 q0 x69 n70 x71.length x72 x73)::(Z5 n70 x71)::(Z4 q2 p2)::(n4,(.mem (AJ p1)))::(Bb n8 t5.1)::T0)∧GK k p1 p2 t5 x69 x71 x72 x73=some r) ?_ ?_
  ·refine .a 6 ?_;rcases oi h with⟨c78,h⟩|⟨c78,h⟩
   ·refine .a 7 ?_;obtain⟨t79,et79,h⟩:=ob h;refine .callH [(.ptr q0 0),(AA ((AC p2 (AH ((p2.length:Int) - (1:Int)))).f1)),(AA ((AC p2 (AH ((p2.length:Int) - (1:Int)))).f0))] ((Z0 q0 t66.f0.f0 n68 t66.f0.f1.length t66.f0.f2 t66.f0.f3)::(Z5 n68 t66.f0.f1)::(Z4 q2 p2)::(n4,(.mem (AJ p1)))::(Bb n8 t5.1)::(Bb n62 (AC p2 (AH ((p2.length:Int) - (1:Int)))))::T0) _ rfl rfl rfl 45 rfl (by decide) Hu ⟨rfl,rfl,rfl,rfl,rfl,rfl,trivial⟩ (.cons 0 rfl (.cons 0 rfl (.refl _))) (Bp et79) ?_;rintro _ _ ⟨n81,rfl,hs80⟩;refine .wH [0,2,4,7,8,13,39,40,41,42,43,44,45] hs80 ?_;refine .nH [0,2,4,7,8] (H':=((Z0 q0 t79.f0.f0 n81 t79.f0.f1.length t79.f0.f2 t79.f0.f3)::(Z5 n81 t79.f0.f1)::(Z4 q2 p2)::(n4,(.mem (AJ p1)))::(Bb n8 t5.1)::T0)) (.cons 0 rfl (.cons 0 rfl (.cons 0 rfl (.cons 0 rfl (.cons 0 rfl (.drop (.refl _))))))) ?_;exact⟨n81,t79.f0.f0,t79.f0.f1,t79.f0.f2,t79.f0.f3,rfl,rfl,h⟩
   refine .a 1 ?_;refine .sH [0,2,4,7,8] (H':=((Z0 q0 t66.f0.f0 n68 t66.f0.f1.length t66.f0.f2 t66.f0.f3)::(Z5 n68 t66.f0.f1)::(Z4 q2 p2)::(n4,(.mem (AJ p1)))::(Bb n8 t5.1)::T0)) (.cons 0 rfl (.cons 0 rfl (.cons 0 rfl (.cons 0 rfl (.cons 0 rfl (.drop (.refl _))))))) ?_;exact⟨n68,t66.f0.f0,t66.f0.f1,t66.f0.f2,t66.f0.f3,rfl,rfl,h⟩
  rintro _ _ ⟨n70,x69,x71,x72,x73,rfl,rfl,h⟩;rw[GK.eq_1]at h;refine .a 6 ?_;rcases oi h with⟨c74,h⟩|⟨c74,h⟩
  ·refine .a 7 ?_;obtain⟨t75,et75,h⟩:=ob h;refine .callH [(.ptr q0 0),(AA t5.1.f0),(AA t5.1.f1)] ((Z0 q0 x69 n70 x71.length x72 x73)::(Z5 n70 x71)::(Z4 q2 p2)::(n4,(.mem (AJ p1)))::(Bb n8 t5.1)::T0) _ rfl rfl rfl 54 rfl (by decide) Hu ⟨rfl,rfl,rfl,rfl,rfl,rfl,trivial⟩ (.cons 0 rfl (.cons 0 rfl (.refl _))) (Bp et75) ?_;rintro _ _ ⟨n77,rfl,hs76⟩;refine .wH [0,2,4,7,8,48,49,50,51,52,53,54] hs76 ?_;refine .nK [2,4,7,8] ?_;exact⟨n77,t75.f0.f0,t75.f0.f1,t75.f0.f2,t75.f0.f3,rfl,rfl,h⟩
  refine .a 1 ?_;refine .sK [2,4,7,8] ?_;exact⟨n70,x69,x71,x72,x73,rfl,rfl,h⟩
 rintro _ _ ⟨n10,x9,x11,x12,x13,rfl,rfl,h⟩;rw[C2.eq_1]at h;refine .seq ?_;obtain⟨t14,et14,h⟩:=ob h;obtain⟨g15,h⟩:=AD h;obtain⟨g18,h⟩:=AD h;refine .regEff (by rfl) (by decide+kernel) (fun (σ:Nat→Nat)=>([(.own q2 0 p2.length),(AA (p2.length:Int)),(.ptr n4 0),(AA p1.f0),(AA t14),(AA (AH ((p2.length:Int) -t14))),(.own q2 0 ((AH ((p2.length:Int) -t14)).toNat)),(Cb t5.1),(.fz 2 (([t5.1]:List Ar).map Cb)),(.own (σ 9) 0 (p2.take ((AH ((p2.length:Int) -t14)).toNat)++([t5.1]:List Ar)).length),(.own (σ 9) 0 (p2.take ((AH ((p2.length:Int) -t14)).toNat)++([t5.1]:List Ar)).length)]:List AV)) (fun (L:Nat→Bool) (σ:Nat→Nat)=>((Z0 q0 x9 n10 x11.length x12 x13)::(Z5 n10 x11)::(n4,(.mem (AJ p1)))::(Bb n8 t5.1)::(bif L 9 then(((σ 9),(.mem (.ar 2 ((p2.take ((AH ((p2.length:Int) -t14)).toNat)++([t5.1]:List Ar)).map Cb))))::T0)else((Z4 q2 p2)::T0)):AN)) [(2,(.own q2 0 p2.length)),(4,(.ptr n4 0)),(7,(AA (p2.length:Int))),(8,(.ptr n8 0))] ⟨rfl,rfl,rfl,rfl,trivial⟩ (fun _=>rfl) (fun σ=>(.cons 0 rfl (.cons 0 rfl (.cons 1 rfl (.cons 1 rfl (.cons 0 rfl (.refl _))))))) ⟨?_,?_,?_,?_,?_,?_,?_,?_,?_,?_,?_,trivial⟩ (fun σ=>[(6,(.own (σ 9) 0 (p2.take ((AH ((p2.length:Int) -t14)).toNat)++([t5.1]:List Ar)).length))]) (fun σ=>((Z0 q0 x9 n10 x11.length x12 x13)::(Z5 n10 x11)::(n4,(.mem (AJ p1)))::(Bb n8 t5.1)::((σ 9),(.mem (.ar 2 ((p2.take ((AH ((p2.length:Int) -t14)).toNat)++([t5.1]:List Ar)).map Cb))))::T0)) (fun σ=>⟨rfl,trivial⟩) (fun σ=>.refl _) (fun σ=>?_)
 ·refine .calm (fun _ _=>rfl) fun L σ hc hi hd=>?_;have m6:L 6=false:=hc.neg (i:=0) (j:=6) rfl (by rfl) hi;have m9:L 9=false:=hc.neg (i:=6) (j:=9) rfl (by rfl) m6;refine .heq (H':=((Z0 q0 x9 n10 x11.length x12 x13)::(Z5 n10 x11)::(n4,(.mem (AJ p1)))::(Bb n8 t5.1)::(Z4 q2 p2)::T0)) (by first|rfl|simp only[m9,cond_true,cond_false]) ?_;refine .a 1 ?_;exact .nE (d:=137) rfl ⟨⟨137,_,rfl,rfl,rfl⟩,.of_eq (by first|rfl|simp only[m9,cond_true,cond_false]) (.refl _)⟩
 ·refine .calm (fun _ _=>rfl) fun L σ hc hi hd=>?_;refine .a 1 ?_;exact .nE (d:=138) rfl ⟨⟨138,_,rfl,rfl,rfl⟩,.refl _⟩
 ·refine .calm (fun _ _=>rfl) fun L σ hc hi hd=>?_;refine .a 1 ?_;exact .nE (d:=139) rfl ⟨⟨139,_,rfl,rfl,rfl⟩,.refl _⟩
 ·refine .calm (fun _ _=>rfl) fun L σ hc hi hd=>?_;refine .a 1 ?_;exact .nE (d:=140) rfl ⟨⟨140,_,rfl,rfl,rfl⟩,.refl _⟩
 ·refine .calm (fun _ _=>rfl) fun L σ hc hi hd=>?_;refine .wK [140] ?_;refine .callS [(AA p1.f0)] (AA t14) 141 rfl (by decide) RL rfl rfl rfl ⟨rfl,rfl,trivial⟩ (G1 et14) ?_;exact .nE (d:=141) rfl ⟨⟨141,_,rfl,rfl,rfl⟩,.refl _⟩
 ·refine .calm (fun _ _=>rfl) fun L σ hc hi hd=>?_;refine .a 1 ?_;exact .nE (d:=142) rfl ⟨⟨142,_,rfl,rfl,rfl⟩,.refl _⟩
 ·refine .calm (fun _ _=>rfl) fun L σ hc hi hd=>?_;have m9:L 9=false:=hc.neg (i:=6) (j:=9) rfl (by rfl) hi;refine .heq (H':=((Z0 q0 x9 n10 x11.length x12 x13)::(Z5 n10 x11)::(n4,(.mem (AJ p1)))::(Bb n8 t5.1)::(Z4 q2 p2)::T0)) (by first|rfl|simp only[m9,cond_true,cond_false]) ?_;refine .wK [137,142] ?_;refine .c (x:=.own q2 0 ((AH ((p2.length:Int) -t14)).toNat)) (.preO 4 rfl rfl rfl rfl g15 Tryz.underlying117 CJ) ?_;exact .nE (d:=143) rfl ⟨⟨143,_,rfl,rfl,rfl⟩,.of_eq (by first|rfl|simp only[m9,cond_true,cond_false]) (.refl _)⟩
 ·refine .calm (fun _ _=>rfl) fun L σ hc hi hd=>?_;refine .a 1 ?_;exact .nE (d:=144) rfl ⟨⟨144,_,rfl,rfl,rfl⟩,.refl _⟩
 ·refine .calm (fun _ _=>rfl) fun L σ hc hi hd=>?_;refine .wK [144] ?_;refine .lit (Z:=(.st [(1,(AA (0:Int))),(1,(AA (0:Int)))])) (xs:=(([t5.1]:List Ar).map Cb)) (qs:=[(0,(Cb t5.1))]) rfl 145 rfl (by decide) rfl ⟨rfl,rfl,rfl,trivial⟩ Tryz.underlying117 CJ En DY rfl (by decide) (Aj (z:=2) [(Cb t5.1)] rfl ⟨⟨rfl,rfl⟩,trivial⟩) rfl fun n16=>?_;refine .freezeS 0 [(145,(.fz 2 (([t5.1]:List Ar).map Cb)))] rfl ⟨Ad rfl,trivial⟩ ?_;exact .nE (d:=145) rfl ⟨⟨145,_,rfl,rfl,rfl⟩,.refl _⟩
 ·intro L σ hc hi hd;refine .heq (H':=((Z0 q0 x9 n10 x11.length x12 x13)::(Z5 n10 x11)::(n4,(.mem (AJ p1)))::(Bb n8 t5.1)::(Z4 q2 p2)::T0)) (by first|rfl|simp only[hi,cond_true,cond_false]) ?_;refine .wK [143,145] ?_;refine .appendCut (l:=p2) (m:=([t5.1]:List Ar)) 4 146 rfl (by decide) rfl rfl rfl (by omega) rfl rfl EJ.fz Tryz.underlying117 Tryz.underlying117 CJ T1 En rfl g18 (by decide) fun n17=>?_;have a9:A3 L 9 9=true:=rfl;have u9:Cz σ 9 n17 9=n17:=rfl;have m10:L 10=false:=hc.neg (i:=9) (j:=10) rfl (by rfl) hi;exact .nE (d:=146) rfl ⟨(Cz σ 9 n17),(fun j hj=>match j,hj with |0,_=>rfl|1,_=>rfl|2,_=>rfl|3,_=>rfl|4,_=>rfl|5,_=>rfl|6,_=>rfl|7,_=>rfl|8,_=>rfl|9,hj=>Bool.noConfusion (hj.symm.trans hi)|10,hj=>Bool.noConfusion (hj.symm.trans m10)|_+11,_=>rfl),(fun d' hd'=>⟨_,rfl,by cases hd';rfl⟩),.of_eq (B:=((Z0 q0 x9 n10 x11.length x12 x13)::(Z5 n10 x11)::(n4,(.mem (AJ p1)))::(Bb n8 t5.1)::(Z4 n17 (p2.take ((AH ((p2.length:Int) -t14)).toNat)++([t5.1]:List Ar)))::T0)) (by simp only[a9,u9,cond_true,cond_false]) (.refl _)⟩
 ·refine .calm (fun _ _=>rfl) fun L σ hc hi hd=>?_;have y9:L 9=true:=BJ hd (i:=9) (by rfl);refine .heq (H':=((Z0 q0 x9 n10 x11.length x12 x13)::(Z5 n10 x11)::(n4,(.mem (AJ p1)))::(Bb n8 t5.1)::((σ 9),(.mem (.ar 2 ((p2.take ((AH ((p2.length:Int) -t14)).toNat)++([t5.1]:List Ar)).map Cb))))::T0)) (by first|rfl|simp only[y9,cond_true,cond_false]) ?_;refine .a 1 ?_;exact .nE (d:=6) rfl ⟨⟨6,_,rfl,rfl,rfl⟩,.of_eq (by first|rfl|simp only[y9,cond_true,cond_false]) (.refl _)⟩
 generalize σ 9=n17;refine .nH [6] (H':=((Z0 q0 x9 n10 x11.length x12 x13)::(Z5 n10 x11)::(Z4 n17 (p2.take ((AH ((p2.length:Int) -t14)).toNat)++([t5.1]:List Ar)))::T0)) (.cons 0 rfl (.cons 0 rfl (.cons 2 rfl (.drop (.drop (.refl _)))))) ?_;refine .rK [6] ?_;cases h;exact⟨[(.own n17 0 (p2.take ((AH ((p2.length:Int) -t14)).toNat)++([t5.1]:List Ar)).length)],⟨rfl,rfl,trivial⟩,n17,n10,rfl,(.cons 2 rfl (.cons 0 rfl (.cons 0 rfl (.refl _))))⟩
def Ie (k:Nat) (x6:Int) (x8:(List AR)) (x9:Int) (x10:Int) (x12:(List Ar)):Option (Ay×Int):=
 if 0≤(0:Int)∧(0:Int)<(x12.length:Int)then if 0≤(0:Int)∧(0:Int)<(x12.length:Int)then some ((Ay.mk x6 x8 ((AC x12 (0:Int)).f0) ((AC x12 (0:Int)).f1)),(0:Int))
 else none
 else none
def Ch (k:Nat) (p0:(List AE)):Nat→Int→(List AR)→Int→Int→(List Ar)→Int→Option (Ay×Int)
 | 0,_,_,_,_,_,_=>none
 | j+1,x15,x17,x18,x19,x21,x22=>
   if x22<(p0.length:Int)then if 0≤x22∧x22<(p0.length:Int)then(Si k (BD.mk (Ay.mk x15 x17 x18 x19)) (AC p0 x22) x21).bind fun t28=>
   (Ch k p0 j) t28.2.f0.f0 t28.2.f0.f1 t28.2.f0.f2 t28.2.f0.f3 t28.1 (AH (x22+(1:Int)))
   else none
   else Ie k x15 x17 x18 x19 x21
def UD (k:Nat) (p0:(List AE)):Option (Ay×Int):=
 (Ti k p0).bind fun t3=>
 if t3≠(0:Int)then some ((Ay.mk (0:Int) ([]:List AR) (0:Int) (0:Int)),t3)
 else Ch k p0 k (0:Int) ([]:List AR) (0:Int) (0:Int) ([]:List Ar) (0:Int)
theorem OI {k:Nat} {p0:(List AE)} {r:(Ay×Int)} (h:UD k p0=some r):AM Tryz.prog 37 [(.fz 5 (p0.map AJ))] (.tup [(Bg r.1),(AA r.2)]):=by
 rw[UD.eq_1]at h;refine AM.intro (res:=[.cell 2 80,.tmp 3]) Tryz.func37 rfl rfl rfl (Nat.le_of_ble_eq_true rfl) ?_;refine .sr ?_;refine .alloc rfl 2 rfl (by decide) rfl R2 NM fun n2=>?_;refine .a 6 ?_;obtain⟨t3,et3,h⟩:=ob h;refine .callS [(.fz 5 (p0.map AJ))] (AA t3) 10 rfl (by decide) VK rfl rfl rfl ⟨rfl,rfl,trivial⟩ (OO et3) ?_;refine .a 7 ?_;rcases oi h with⟨c4,h⟩|⟨c4,h⟩
 ·refine .a 3 ?_;refine .c (x:=(Z6 (0:Int))) (.build (qs:=[]) rfl trivial Tryz.underlying80 rfl R2 NM .nil rfl) ?_;refine .a 1 ?_;refine .store 0 rfl rfl rfl rfl rfl rfl (.cast .here rfl) rfl rfl Kb rfl ?_;refine .a 1 ?_;refine .nK [2,3] ?_;refine .coeFld (X':=(.st [(1,(AA (0:Int))),(1,(.fz 7 (([]:List AR).map A9))),(1,(AA (0:Int))),(1,(AA (0:Int)))])) 0 rfl (.cast (.fldS (.fld0 .here)) rfl) rfl (DL 7) rfl rfl ?_;refine .rK [2,3] ?_;cases h;exact⟨[(Bg (Ay.mk (0:Int) ([]:List AR) (0:Int) (0:Int))),(AA t3)],⟨⟨_,0,rfl,rfl,P2,Kb⟩,rfl,rfl,trivial⟩,rfl⟩
 refine .a 4 ?_;refine .c (x:=(.st [(4,(Z6 (0:Int)))])) (.build (qs:=[]) rfl trivial Tryz.underlying116 rfl Sy RU .nil rfl) ?_;refine .box rfl 16 rfl (by decide) rfl rfl rfl fun n5=>?_;refine .a 1 ?_;refine .nS [0,2,5] [1,0] ?_;refine .a 3 ?_;refine .nK [0,2,5,6] ?_;refine .seq_mid (fun ρ H=>∃ (n7:Nat) (n11:Nat) (x6:Int) (x8:(List AR)) (x9:Int) (x10:Int) (x12:(List Ar)),ρ=[(2,(.ptr n2 0)),(5,(.ptr n5 0)),(6,(.own n11 0 x12.length))]∧H=[(n2,(.mem (Z6 (0:Int)))),(Z0 n5 x6 n7 x8.length x9 x10),(Z5 n7 x8),(Z4 n11 x12)]∧Ie k x6 x8 x9 x10 x12=some r) ?_ ?_
 ·refine .a 7 ?_;refine .nilOwn 6 2 rfl fun n32=>?_;refine .nilOwnFld 2 7 (fun n33=>(.st [(4,(.st [(1,(AA (0:Int))),(1,(.own n33 0 0)),(1,(AA (0:Int))),(1,(AA (0:Int)))]))])) rfl (fun _=>(.cast (.fld0 (.fldS (.fld0 .here))) rfl)) (fun _=>rfl) (fun _=>rfl) fun n33=>?_;refine .wH [2,5,6,17,18,19] (H':=[(n2,(.mem (Z6 (0:Int)))),(Z0 n5 (0:Int) n33 ([]:List AR).length (0:Int) (0:Int)),(Z5 n33 ([]:List AR)),(Z4 n32 ([]:List Ar))]) (.cons 2 rfl (.cons 2 rfl (.cons 0 rfl (.cons 0 rfl (.nil _))))) ?_;refine .loop (fun kq ρ H=>∃ (n16:Nat) (n20:Nat) (x15:Int) (x17:(List AR)) (x18:Int) (x19:Int) (x21:(List Ar)) (x22:Int),ρ=[(2,(.ptr n2 0)),(5,(.ptr n5 0)),(6,(.own n20 0 x21.length)),(17,(.fz 5 (p0.map AJ))),(18,(AA (p0.length:Int))),(19,(AA x22))]∧H=[(n2,(.mem (Z6 (0:Int)))),(Z0 n5 x15 n16 x17.length x18 x19),(Z5 n16 x17),(Z4 n20 x21)]∧Ch k p0 kq x15 x17 x18 x19 x21 x22=some r) k ⟨n33,n32,(0:Int),([]:List AR),(0:Int),(0:Int),([]:List Ar),(0:Int),rfl,rfl,h⟩ ?_;rintro kq24 _ _ ⟨n16,n20,x15,x17,x18,x19,x21,x22,rfl,rfl,h⟩
  cases kq24 with
  | zero=>rw[Ch.eq_1]at h;cases h
  | succ kq24=>
  rw[Ch.eq_2]at h;generalize hrec23:Ch k p0 kq24=rec23 at h;refine .a 5 ?_;rcases oi h with⟨c25,h⟩|⟨c25,h⟩
  ·refine .a 6 ?_;obtain⟨g26,h⟩:=AD h;refine .a 2 ?_;refine .alloc rfl 8 rfl (by decide) rfl Aw Au fun n27=>?_;refine .store 0 rfl rfl rfl rfl rfl rfl (.cast .here rfl) rfl rfl BC rfl ?_;refine .nS [2,5,6,8,17,18,19] [1,2,3,4,0] ?_;refine .a 4 ?_;obtain⟨t28,et28,h⟩:=ob h;refine .callH [(.ptr n5 0),(AJ (AC p0 x22)),(.own n20 0 x21.length)] [(Z0 n5 x15 n16 x17.length x18 x19),(Z5 n16 x17),(Z4 n20 x21),(n2,(.mem (Z6 (0:Int)))),(n27,(.mem (AJ (AC p0 x22))))] _ rfl rfl rfl 26 rfl (by decide) U3 ⟨rfl,rfl,rfl,rfl,rfl,rfl,trivial⟩ (.cons 1 rfl (.cons 1 rfl (.cons 1 rfl (.refl _)))) (PL et28) ?_;rintro _ _ ⟨n30,n31,rfl,hs29⟩;refine .wH [2,5,8,17,18,19,23,24,26] hs29 ?_;refine .a 1 ?_;refine .nS [2,5,6,17,18,19] [3,1,2,0] ?_;refine .a 3 ?_;refine .nK [2,5,6,17,18,19] ?_;exact⟨kq24,Nat.lt_succ_self _,n31,n30,t28.2.f0.f0,t28.2.f0.f1,t28.2.f0.f2,t28.2.f0.f3,t28.1,(AH (x22+(1:Int))),rfl,rfl,by rw[hrec23];exact h⟩
  refine .a 1 ?_;refine .eK [2,5,6] ?_;exact⟨n16,n20,x15,x17,x18,x19,x21,rfl,rfl,h⟩
 rintro _ _ ⟨n7,n11,x6,x8,x9,x10,x12,rfl,rfl,h⟩;rw[Ie.eq_1]at h;refine .seq ?_;obtain⟨g13,h⟩:=AD h;obtain⟨g14,h⟩:=AD h;refine .regEff (by rfl) (by decide+kernel) (fun (σ:Nat→Nat)=>([(.ptr n5 0),(.ptr n5 0),(.own n11 0 x12.length),(.ptr n11 ((0:Int).toNat*2+0)),(.ptr n11 ((0:Int).toNat*2+0+0)),(AA ((AC x12 (0:Int)).f0)),(.own n11 0 x12.length),(.ptr n11 ((0:Int).toNat*2+0)),(.ptr n11 ((0:Int).toNat*2+0+1)),(AA ((AC x12 (0:Int)).f1)),(.ptr n5 0),(.ptr n5 0),(.ptr n5 2),(.fl undef),(.ptr n5 0),(.ptr n5 0),(.ptr n5 3),(.fl undef)]:List AV)) (fun (L:Nat→Bool) (σ:Nat→Nat)=>((n2,(.mem (Z6 (0:Int))))::(Z5 n7 x8)::(Z4 n11 x12)::(bif L 13 then(bif L 17 then((Z0 n5 x6 n7 x8.length ((AC x12 (0:Int)).f0) ((AC x12 (0:Int)).f1))::[])else((Z0 n5 x6 n7 x8.length ((AC x12 (0:Int)).f0) x10)::[]))else((Z0 n5 x6 n7 x8.length x9 x10)::[])):AN)) [(2,(.ptr n2 0)),(5,(.ptr n5 0)),(6,(.own n11 0 x12.length))] ⟨rfl,rfl,rfl,trivial⟩ (fun _=>rfl) (fun σ=>(.cons 0 rfl (.cons 1 rfl (.cons 1 rfl (.cons 0 rfl (.refl _)))))) ⟨?_,?_,?_,?_,?_,?_,?_,?_,?_,?_,?_,?_,?_,?_,?_,?_,?_,?_,trivial⟩ (fun σ=>[(2,(.ptr n2 0)),(5,(.ptr n5 0))]) (fun σ=>((n2,(.mem (Z6 (0:Int))))::(Z5 n7 x8)::(Z4 n11 x12)::(Z0 n5 x6 n7 x8.length ((AC x12 (0:Int)).f0) ((AC x12 (0:Int)).f1))::[])) (fun σ=>⟨rfl,rfl,trivial⟩) (fun σ=>.refl _) (fun σ=>?_)
 ·refine .calm (fun _ _=>rfl) fun L σ hc hi hd=>?_;have m13:L 13=false:=hc.neg (i:=0) (j:=13) rfl (by rfl) hi;have m17:L 17=false:=hc.neg (i:=0) (j:=17) rfl (by rfl) hi;refine .heq (H':=((n2,(.mem (Z6 (0:Int))))::(Z5 n7 x8)::(Z4 n11 x12)::(Z0 n5 x6 n7 x8.length x9 x10)::[])) (by first|rfl|simp only[m13,m17,cond_true,cond_false]) ?_;refine .a 1 ?_;exact .nE (d:=28) rfl ⟨⟨28,_,rfl,rfl,rfl⟩,.of_eq (by first|rfl|simp only[m13,m17,cond_true,cond_false]) (.refl _)⟩
 ·refine .calm (fun _ _=>rfl) fun L σ hc hi hd=>?_;have m17:L 17=false:=hc.neg (i:=1) (j:=17) rfl (by rfl) hi
  cases b13:L 13 with
  | true=>
    refine .heq (H':=((n2,(.mem (Z6 (0:Int))))::(Z5 n7 x8)::(Z4 n11 x12)::(Z0 n5 x6 n7 x8.length ((AC x12 (0:Int)).f0) x10)::[])) (by first|rfl|simp only[b13,m17,cond_true,cond_false]) ?_;refine .a 1 ?_;exact .nE (d:=29) rfl ⟨⟨29,_,rfl,rfl,rfl⟩,.of_eq (by first|rfl|simp only[b13,m17,cond_true,cond_false]) (.refl _)⟩
  | false=>
    refine .heq (H':=((n2,(.mem (Z6 (0:Int))))::(Z5 n7 x8)::(Z4 n11 x12)::(Z0 n5 x6 n7 x8.length x9 x10)::[])) (by first|rfl|simp only[b13,m17,cond_true,cond_false]) ?_;refine .a 1 ?_;exact .nE (d:=29) rfl ⟨⟨29,_,rfl,rfl,rfl⟩,.of_eq (by first|rfl|simp only[b13,m17,cond_true,cond_false]) (.refl _)⟩
 ·refine .calm (fun _ _=>rfl) fun L σ hc hi hd=>?_;refine .a 1 ?_;exact .nE (d:=30) rfl ⟨⟨30,_,rfl,rfl,rfl⟩,.refl _⟩
 ·refine .calm (fun _ _=>rfl) fun L σ hc hi hd=>?_;refine .a 1 ?_;exact .nE (d:=31) rfl ⟨⟨31,_,rfl,rfl,rfl⟩,.refl _⟩
 ·refine .calm (fun _ _=>rfl) fun L σ hc hi hd=>?_;refine .a 1 ?_;exact .nE (d:=32) rfl ⟨⟨32,_,rfl,rfl,rfl⟩,.refl _⟩
 ·refine .calm (fun _ _=>rfl) fun L σ hc hi hd=>?_;refine .wK [32] ?_;refine .c (.load 2 rfl rfl rfl (.cast (.lidx (0:Int) g13.1 g13.2 (.fld0 .here)) (by omega)) Mx DZ) ?_;exact .nE (d:=33) rfl ⟨⟨33,_,rfl,rfl,rfl⟩,.refl _⟩
 ·refine .calm (fun _ _=>rfl) fun L σ hc hi hd=>?_;refine .a 1 ?_;exact .nE (d:=34) rfl ⟨⟨34,_,rfl,rfl,rfl⟩,.refl _⟩
 ·refine .calm (fun _ _=>rfl) fun L σ hc hi hd=>?_;refine .a 1 ?_;exact .nE (d:=35) rfl ⟨⟨35,_,rfl,rfl,rfl⟩,.refl _⟩
 ·refine .calm (fun _ _=>rfl) fun L σ hc hi hd=>?_;refine .a 1 ?_;exact .nE (d:=36) rfl ⟨⟨36,_,rfl,rfl,rfl⟩,.refl _⟩
 ·refine .calm (fun _ _=>rfl) fun L σ hc hi hd=>?_;refine .wK [36] ?_;refine .c (.load 2 rfl rfl rfl (.cast (.lidx (0:Int) g14.1 g14.2 (.fldS (.fld0 .here))) (by omega)) Mx DZ) ?_;exact .nE (d:=37) rfl ⟨⟨37,_,rfl,rfl,rfl⟩,.refl _⟩
 ·refine .calm (fun _ _=>rfl) fun L σ hc hi hd=>?_;have m11:L 11=false:=hc.neg (i:=10) (j:=11) rfl (by rfl) hi;have m12:L 12=false:=hc.neg (i:=11) (j:=12) rfl (by rfl) m11;have m13:L 13=false:=hc.neg (i:=12) (j:=13) rfl (by rfl) m12;have m17:L 17=false:=hc.neg (i:=10) (j:=17) rfl (by rfl) hi;refine .heq (H':=((n2,(.mem (Z6 (0:Int))))::(Z5 n7 x8)::(Z4 n11 x12)::(Z0 n5 x6 n7 x8.length x9 x10)::[])) (by first|rfl|simp only[m13,m17,cond_true,cond_false]) ?_;refine .a 1 ?_;exact .nE (d:=38) rfl ⟨⟨38,_,rfl,rfl,rfl⟩,.of_eq (by first|rfl|simp only[m13,m17,cond_true,cond_false]) (.refl _)⟩
 ·refine .calm (fun _ _=>rfl) fun L σ hc hi hd=>?_;have m12:L 12=false:=hc.neg (i:=11) (j:=12) rfl (by rfl) hi;have m13:L 13=false:=hc.neg (i:=12) (j:=13) rfl (by rfl) m12;have m17:L 17=false:=hc.neg (i:=11) (j:=17) rfl (by rfl) hi;refine .heq (H':=((n2,(.mem (Z6 (0:Int))))::(Z5 n7 x8)::(Z4 n11 x12)::(Z0 n5 x6 n7 x8.length x9 x10)::[])) (by first|rfl|simp only[m13,m17,cond_true,cond_false]) ?_;refine .a 1 ?_;exact .nE (d:=39) rfl ⟨⟨39,_,rfl,rfl,rfl⟩,.of_eq (by first|rfl|simp only[m13,m17,cond_true,cond_false]) (.refl _)⟩
 ·refine .calm (fun _ _=>rfl) fun L σ hc hi hd=>?_;have m13:L 13=false:=hc.neg (i:=12) (j:=13) rfl (by rfl) hi;have m17:L 17=false:=hc.neg (i:=12) (j:=17) rfl (by rfl) hi;refine .heq (H':=((n2,(.mem (Z6 (0:Int))))::(Z5 n7 x8)::(Z4 n11 x12)::(Z0 n5 x6 n7 x8.length x9 x10)::[])) (by first|rfl|simp only[m13,m17,cond_true,cond_false]) ?_;refine .a 1 ?_;exact .nE (d:=40) rfl ⟨⟨40,_,rfl,rfl,rfl⟩,.of_eq (by first|rfl|simp only[m13,m17,cond_true,cond_false]) (.refl _)⟩
 ·intro L σ hc hi hd;have m17:L 17=false:=hc.neg (i:=13) (j:=17) rfl (by rfl) hi;refine .heq (H':=((n2,(.mem (Z6 (0:Int))))::(Z5 n7 x8)::(Z4 n11 x12)::(Z0 n5 x6 n7 x8.length x9 x10)::[])) (by first|rfl|simp only[hi,m17,cond_true,cond_false]) ?_;refine .wK [33,40] ?_;refine .store 3 rfl rfl rfl rfl rfl rfl (.cast (.fld0 (.fldS (.fldS (.fld0 .here)))) rfl) rfl rfl DZ rfl ?_;have a13:A3 L 13 13=true:=rfl;have a17:A3 L 13 17=false:=m17;exact .n0 ⟨σ,(fun _ _=>rfl),(fun d' hd'=>by cases hd'),.of_eq (B:=((n2,(.mem (Z6 (0:Int))))::(Z5 n7 x8)::(Z4 n11 x12)::(Z0 n5 x6 n7 x8.length ((AC x12 (0:Int)).f0) x10)::[])) (by simp only[a13,a17,cond_true,cond_false]) (.refl _)⟩
 ·refine .calm (fun _ _=>rfl) fun L σ hc hi hd=>?_;have y13:L 13=true:=BJ hd (i:=13) (by rfl);have m15:L 15=false:=hc.neg (i:=14) (j:=15) rfl (by rfl) hi;have m16:L 16=false:=hc.neg (i:=15) (j:=16) rfl (by rfl) m15;have m17:L 17=false:=hc.neg (i:=16) (j:=17) rfl (by rfl) m16;refine .heq (H':=((n2,(.mem (Z6 (0:Int))))::(Z5 n7 x8)::(Z4 n11 x12)::(Z0 n5 x6 n7 x8.length ((AC x12 (0:Int)).f0) x10)::[])) (by first|rfl|simp only[y13,m17,cond_true,cond_false]) ?_;refine .a 1 ?_;exact .nE (d:=41) rfl ⟨⟨41,_,rfl,rfl,rfl⟩,.of_eq (by first|rfl|simp only[y13,m17,cond_true,cond_false]) (.refl _)⟩
 ·refine .calm (fun _ _=>rfl) fun L σ hc hi hd=>?_;have y13:L 13=true:=BJ hd (i:=13) (by rfl);have m16:L 16=false:=hc.neg (i:=15) (j:=16) rfl (by rfl) hi;have m17:L 17=false:=hc.neg (i:=16) (j:=17) rfl (by rfl) m16;refine .heq (H':=((n2,(.mem (Z6 (0:Int))))::(Z5 n7 x8)::(Z4 n11 x12)::(Z0 n5 x6 n7 x8.length ((AC x12 (0:Int)).f0) x10)::[])) (by first|rfl|simp only[y13,m17,cond_true,cond_false]) ?_;refine .a 1 ?_;exact .nE (d:=42) rfl ⟨⟨42,_,rfl,rfl,rfl⟩,.of_eq (by first|rfl|simp only[y13,m17,cond_true,cond_false]) (.refl _)⟩
 ·refine .calm (fun _ _=>rfl) fun L σ hc hi hd=>?_;have y13:L 13=true:=BJ hd (i:=13) (by rfl);have m17:L 17=false:=hc.neg (i:=16) (j:=17) rfl (by rfl) hi;refine .heq (H':=((n2,(.mem (Z6 (0:Int))))::(Z5 n7 x8)::(Z4 n11 x12)::(Z0 n5 x6 n7 x8.length ((AC x12 (0:Int)).f0) x10)::[])) (by first|rfl|simp only[y13,m17,cond_true,cond_false]) ?_;refine .a 1 ?_;exact .nE (d:=43) rfl ⟨⟨43,_,rfl,rfl,rfl⟩,.of_eq (by first|rfl|simp only[y13,m17,cond_true,cond_false]) (.refl _)⟩
 ·intro L σ hc hi hd;have y13:L 13=true:=BJ hd (i:=13) (by rfl);refine .heq (H':=((n2,(.mem (Z6 (0:Int))))::(Z5 n7 x8)::(Z4 n11 x12)::(Z0 n5 x6 n7 x8.length ((AC x12 (0:Int)).f0) x10)::[])) (by first|rfl|simp only[hi,y13,cond_true,cond_false]) ?_;refine .wK [37,43] ?_;refine .store 3 rfl rfl rfl rfl rfl rfl (.cast (.fld0 (.fldS (.fldS (.fldS (.fld0 .here))))) rfl) rfl rfl DZ rfl ?_;have a13:A3 L 17 13=true:=y13;have a17:A3 L 17 17=true:=rfl;exact .n0 ⟨σ,(fun _ _=>rfl),(fun d' hd'=>by cases hd'),.of_eq (B:=((n2,(.mem (Z6 (0:Int))))::(Z5 n7 x8)::(Z4 n11 x12)::(Z0 n5 x6 n7 x8.length ((AC x12 (0:Int)).f0) ((AC x12 (0:Int)).f1))::[])) (by simp only[a13,a17,cond_true,cond_false]) (.refl _)⟩
 refine .nS [2,5] [0,3,1] ?_;refine .a 5 ?_;refine .freezeFld (X':=(.st [(4,(.st [(1,(AA x6)),(1,(.fz 7 (x8.map A9))),(1,(AA ((AC x12 (0:Int)).f0))),(1,(AA ((AC x12 (0:Int)).f1)))]))])) (els':=(x8.map A9)) 2 1 rfl rfl (.cast (.fld0 (.fldS (.fld0 .here))) rfl) (by simp) (by rw[DN]) rfl rfl (by decide) ?_;refine .c (x:=Bg (Ay.mk x6 x8 ((AC x12 (0:Int)).f0) ((AC x12 (0:Int)).f1))) (.load 1 rfl rfl rfl (.cast (.fld0 .here) rfl) P2 Kb) ?_;refine .store 0 rfl rfl rfl rfl rfl rfl (.cast .here rfl) rfl rfl Kb rfl ?_;refine .a 1 ?_;refine .nS [2,3] [0] ?_;refine .rK [2,3] ?_;cases h;exact⟨[(Bg (Ay.mk x6 x8 ((AC x12 (0:Int)).f0) ((AC x12 (0:Int)).f1))),(AA (0:Int))],⟨⟨_,0,rfl,rfl,P2,Kb⟩,rfl,rfl,trivial⟩,rfl⟩
end Go.Avl.TC
namespace Go.Avl.TC
open Go Go.RowKit Go.Proofs Go.Avl
set_option linter.unusedVariables false
set_option maxRecDepth 100000
set_option maxHeartbeats 4000000
attribute [local irreducible] AW AO AQ AM Al AG
def Iz (k:Nat):Option Bool:=
 some (true)
def ED (k:Nat) (p0:Ay):Nat→Int→Option Bool
 | 0,_=>none
 | j+1,x9=>
   if x9<(p0.f1.length:Int)then if 0≤x9∧x9<(p0.f1.length:Int)then Option.bind (α:=Bool) (if((AC p0.f1 x9).f0)<(0:Int)then some (true)
   else if p0.f0≤((AC p0.f1 x9).f0)then some (true)
   else if((AC p0.f1 x9).f1)<(0:Int)then some (true)
   else some (decide (p0.f0≤((AC p0.f1 x9).f1)))) fun b15=>
   if b15=true then some (false)
   else(ED k p0 j) (AH (x9+(1:Int)))
   else none
   else Iz k
def Sl (k:Nat) (p0:Ay):Option Bool:=
 Option.bind (α:=Bool) (if p0.f2<(0:Int)then some (true)
 else if p0.f0≤p0.f2 then some (true)
 else if p0.f3<(0:Int)then some (true)
 else some (decide (p0.f0≤p0.f3))) fun b3=>
 if b3=true then some (false)
 else ED k p0 k (0:Int)
theorem Ju {k:Nat} {p0:Ay} {r:Bool} (h:Sl k p0=some r):AM Tryz.prog 66 [(Bg p0)] (AB r):=by
 rw[Sl.eq_1]at h;refine AM.intro (res:=[.tmp 2]) Tryz.func66 rfl rfl rfl (Nat.le_of_ble_eq_true rfl) ?_;refine .sr ?_;refine .box rfl 1 rfl (by decide) rfl rfl rfl fun n2=>?_;refine .a 4 ?_;obtain⟨b3,q4,h⟩:=ob h;refine .regM [(1,(.ptr n2 0)),(26,(AB b3))] [(n2,(.mem (Bg p0)))] ?_ ?_
 ·refine .a 4 ?_;rcases oi q4 with⟨c5,q4⟩|⟨c5,q4⟩
  ·refine .a 18 ?_;cases q4;refine .nilE ⟨rfl,rfl⟩ ?_ ?_
   ·exact⟨rfl,rfl,trivial⟩
   exact(.refl _)
  refine .a 7 ?_;rcases oi q4 with⟨c6,q4⟩|⟨c6,q4⟩
  ·refine .a 11 ?_;cases q4;refine .nilE ⟨rfl,rfl⟩ ?_ ?_
   ·exact⟨rfl,rfl,trivial⟩
   exact(.refl _)
  refine .a 5 ?_;rcases oi q4 with⟨c7,q4⟩|⟨c7,q4⟩
  ·refine .a 6 ?_;cases q4;refine .nilE ⟨rfl,rfl⟩ ?_ ?_
   ·exact⟨rfl,rfl,trivial⟩
   exact(.refl _)
  refine .a 6 ?_;cases q4;refine .nilE ⟨rfl,rfl⟩ ?_ ?_
  ·exact⟨rfl,rfl,trivial⟩
  exact(.refl _)
 rcases oi h with⟨c8,h⟩|⟨c8,h⟩
 ·refine .a 4 ?_;refine .nS [2] [] ?_;refine .rK [2] ?_;have hr:=Option.some.inj h;subst hr;exact⟨[(AB false)],⟨rfl,rfl,trivial⟩,rfl⟩
 refine .a 1 ?_;refine .sK [1] ?_;refine .seq_mid (fun ρ H=>ρ=[]∧H=[]∧Iz k=some r) ?_ ?_
 ·refine .a 8 ?_;refine .wK [1,28,29,30] ?_;refine .loop (fun kq ρ H=>∃ (x9:Int),ρ=[(1,(.ptr n2 0)),(28,(.fz 7 (p0.f1.map A9))),(29,(AA (p0.f1.length:Int))),(30,(AA x9))]∧H=[(n2,(.mem (Bg p0)))]∧ED k p0 kq x9=some r) k ⟨(0:Int),rfl,rfl,h⟩ ?_;rintro kq11 _ _ ⟨x9,rfl,rfl,h⟩
  cases kq11 with
  | zero=>rw[ED.eq_1]at h;cases h
  | succ kq11=>
  rw[ED.eq_2]at h;generalize hrec10:ED k p0 kq11=rec10 at h;refine .a 5 ?_;rcases oi h with⟨c12,h⟩|⟨c12,h⟩
  ·refine .a 6 ?_;obtain⟨g13,h⟩:=AD h;refine .a 2 ?_;refine .alloc rfl 4 rfl (by decide) rfl FH Eh fun n14=>?_;refine .store 0 rfl rfl rfl rfl rfl rfl (.cast .here rfl) rfl rfl Fe rfl ?_;refine .nS [1,4,28,29,30] [1,0] ?_;refine .seq ?_;obtain⟨b15,q16,h⟩:=ob h;refine .regM [(1,(.ptr n2 0)),(28,(.fz 7 (p0.f1.map A9))),(29,(AA (p0.f1.length:Int))),(30,(AA x9)),(55,(AB b15))] [(n2,(.mem (Bg p0)))] ?_ ?_
   ·refine .a 4 ?_;rcases oi q16 with⟨c17,q16⟩|⟨c17,q16⟩
    ·refine .a 18 ?_;cases q16;refine .nilE ⟨rfl,rfl⟩ ?_ ?_
     ·exact⟨rfl,rfl,rfl,rfl,rfl,trivial⟩
     exact(.cons 0 rfl (.nil _))
    refine .a 7 ?_;rcases oi q16 with⟨c18,q16⟩|⟨c18,q16⟩
    ·refine .a 11 ?_;cases q16;refine .nilE ⟨rfl,rfl⟩ ?_ ?_
     ·exact⟨rfl,rfl,rfl,rfl,rfl,trivial⟩
     exact(.cons 0 rfl (.nil _))
    refine .a 5 ?_;rcases oi q16 with⟨c19,q16⟩|⟨c19,q16⟩
    ·refine .a 6 ?_;cases q16;refine .nilE ⟨rfl,rfl⟩ ?_ ?_
     ·exact⟨rfl,rfl,rfl,rfl,rfl,trivial⟩
     exact(.cons 0 rfl (.nil _))
    refine .a 6 ?_;cases q16;refine .nilE ⟨rfl,rfl⟩ ?_ ?_
    ·exact⟨rfl,rfl,rfl,rfl,rfl,trivial⟩
    exact(.cons 0 rfl (.nil _))
   rcases oi h with⟨c20,h⟩|⟨c20,h⟩
   ·refine .a 4 ?_;refine .nS [2] [] ?_;refine .rK [2] ?_;have hr:=Option.some.inj h;subst hr;exact⟨[(AB false)],⟨rfl,rfl,trivial⟩,rfl⟩
   refine .a 5 ?_;refine .nK [1,28,29,30] ?_;exact⟨kq11,Nat.lt_succ_self _,(AH (x9+(1:Int))),rfl,rfl,by rw[hrec10];exact h⟩
  refine .a 1 ?_;refine .eH [] (H':=[]) (.nil _) ?_;exact⟨rfl,rfl,h⟩
 rintro _ _ ⟨rfl,rfl,h⟩;rw[Iz.eq_1]at h;refine .a 3 ?_;refine .nK [2] ?_;refine .rK [2] ?_;have hr:=Option.some.inj h;subst hr;exact⟨[(AB true)],⟨rfl,rfl,trivial⟩,rfl⟩
def LN (k:Nat) (x4:(List (Vector Int 4))):Option (List (Vector Int 4)):=
 some (x4)
def Hf (k:Nat) (rec8:((List (Vector Int 4))→Int→Option (List (Vector Int 4)))) (x7:Int) (x12:(List (Vector Int 4))):Option (List (Vector Int 4)):=
 rec8 x12 (AH (x7+(1:Int)))
def Db (k:Nat) (p0:Ay):Nat→(List (Vector Int 4))→Int→Option (List (Vector Int 4))
 | 0,_,_=>none
 | j+1,x6,x7=>
   if x7<(p0.f1.length:Int)then if 0≤x7∧x7<(p0.f1.length:Int)then if(!((AC p0.f1 x7).f3))=true then if(x6++([(AC p0.f1 x7).f2]:List (Vector Int 4))).length*32≤140737488355328 then Hf k (Db k p0 j) x7 (x6++([(AC p0.f1 x7).f2]:List (Vector Int 4)))
   else none
   else Hf k (Db k p0 j) x7 x6
   else none
   else LN k x6
def Ub (k:Nat) (p0:Ay):Option (List (Vector Int 4)):=
 Db k p0 k ([]:List (Vector Int 4)) (0:Int)
theorem O6 {k:Nat} {p0:Ay} {r:(List (Vector Int 4))} (h:Ub k p0=some r):AM Tryz.prog 68 [(Bg p0)] (VW r):=by
 rw[Ub.eq_1]at h;refine AM.intro (res:=[.tmp 2]) Tryz.func68 rfl rfl rfl (Nat.le_of_ble_eq_true rfl) ?_;refine .sr ?_;refine .box rfl 1 rfl (by decide) rfl rfl rfl fun n2=>?_;refine .a 5 ?_;refine .nK [1,3] ?_;refine .seq_mid (fun ρ H=>∃ (n3:Nat) (x4:(List (Vector Int 4))),ρ=[(3,(.own n3 0 x4.length))]∧H=[(n3,(.mem (.ar 4 (x4.map Cc))))]∧LN k x4=some r) ?_ ?_
 ·refine .a 6 ?_;refine .nS [3,7,8,9] [] ?_;refine .a 1 ?_;refine .nilOwn 3 4 rfl fun n19=>?_;refine .wK [3,7,8,9] ?_;refine .loop (fun kq ρ H=>∃ (n5:Nat) (x6:(List (Vector Int 4))) (x7:Int),ρ=[(3,(.own n5 0 x6.length)),(7,(.fz 7 (p0.f1.map A9))),(8,(AA (p0.f1.length:Int))),(9,(AA x7))]∧H=[(n5,(.mem (.ar 4 (x6.map Cc))))]∧Db k p0 kq x6 x7=some r) k ⟨n19,([]:List (Vector Int 4)),(0:Int),rfl,rfl,h⟩ ?_;rintro kq9 _ _ ⟨n5,x6,x7,rfl,rfl,h⟩
  cases kq9 with
  | zero=>rw[Db.eq_1]at h;cases h
  | succ kq9=>
  rw[Db.eq_2]at h;generalize hrec8:Db k p0 kq9=rec8 at h;refine .a 5 ?_;rcases oi h with⟨c10,h⟩|⟨c10,h⟩
  ·refine .a 1 ?_;refine .sK [3,7,8,9] ?_;refine .seq_mid (fun ρ H=>∃ (n11:Nat) (x12:(List (Vector Int 4))),ρ=[(3,(.own n11 0 x12.length)),(7,(.fz 7 (p0.f1.map A9))),(8,(AA (p0.f1.length:Int))),(9,(AA x7))]∧H=[(n11,(.mem (.ar 4 (x12.map Cc))))]∧Hf k rec8 x7 x12=some r) ?_ ?_
   ·refine .a 3 ?_;obtain⟨g13,h⟩:=AD h;refine .a 2 ?_;refine .alloc rfl 5 rfl (by decide) rfl FH Eh fun n14=>?_;refine .store 0 rfl rfl rfl rfl rfl rfl (.cast .here rfl) rfl rfl Fe rfl ?_;refine .nS [3,5,7,8,9] [1,0] ?_;refine .a 6 ?_;rcases oi h with⟨c15,h⟩|⟨c15,h⟩
    ·refine .a 5 ?_;refine .lit (Z:=(.ar 1 ((Vector.replicate 4 (0:Int)).toList.map AL))) (xs:=(([(AC p0.f1 x7).f2]:List (Vector Int 4)).map Cc)) (qs:=[(0,(.ar 1 (((AC p0.f1 x7).f2).toList.map AL)))]) rfl 19 rfl (by decide) rfl ⟨rfl,rfl,rfl,trivial⟩ Tryz.underlying134 BX Bq BP rfl (by decide) (Aj (z:=4) [(.ar 1 (((AC p0.f1 x7).f2).toList.map AL))] (Az _ _) ⟨⟨rfl,(Az _ _)⟩,trivial⟩) rfl fun n16=>?_;obtain⟨g18,h⟩:=AD h;refine .appendL (l:=x6) (m:=([(AC p0.f1 x7).f2]:List (Vector Int 4))) 1 20 rfl (by decide) rfl rfl rfl rfl rfl (EJ.ownL (f:=Cc) (l:=([(AC p0.f1 x7).f2]:List (Vector Int 4))) 0 rfl) Tryz.underlying134 Tryz.underlying134 BX TG Bq rfl g18 (by decide) fun n17=>?_;refine .a 1 ?_;refine .nS [3,7,8,9] [1] ?_;exact⟨n17,(x6++([(AC p0.f1 x7).f2]:List (Vector Int 4))),rfl,rfl,h⟩
    refine .a 1 ?_;refine .sH [3,7,8,9] (H':=[(n5,(.mem (.ar 4 (x6.map Cc))))]) (.cons 0 rfl (.nil _)) ?_;exact⟨n5,x6,rfl,rfl,h⟩
   rintro _ _ ⟨n11,x12,rfl,rfl,h⟩;rw[Hf.eq_1]at h;refine .a 3 ?_;refine .nK [3,7,8,9] ?_;exact⟨kq9,Nat.lt_succ_self _,n11,x12,(AH (x7+(1:Int))),rfl,rfl,by rw[hrec8];exact h⟩
  refine .a 1 ?_;refine .eK [3] ?_;exact⟨n5,x6,rfl,rfl,h⟩
 rintro _ _ ⟨n3,x4,rfl,rfl,h⟩;rw[LN.eq_1]at h;refine .a 4 ?_;refine .nK [2] ?_;refine .freezeS 0 [(2,(.fz 4 (x4.map Cc)))] rfl ⟨Ad rfl,trivial⟩ ?_;refine .rK [2] ?_;have hr:=Option.some.inj h;subst hr;exact⟨[(.fz 4 (x4.map Cc))],⟨rfl,rfl,trivial⟩,rfl⟩
def R3 (k:Nat) (p0:(Vector Int 4)) (p1:Int):Option Bool:=
 if 0≤(IntKind.u8.wrap (p1.tdiv (64:Int)))∧(IntKind.u8.wrap (p1.tdiv (64:Int)))<(4:Int)then if 0≤(p1.tmod (64:Int))then some (decide ((bits .and .u64 (Int.fdiv (Ag p0 (IntKind.u8.wrap (p1.tdiv (64:Int)))) (2 ^ (min (p1.tmod (64:Int)).toNat IntKind.u64.bits))) (1:Int))=(1:Int)))
 else none
 else none
theorem J1 {k:Nat} {p0:(Vector Int 4)} {p1:Int} {r:Bool} (h:R3 k p0 p1=some r):AM Tryz.prog 94 [(.ar 1 (p0.toList.map AL)),(AY p1)] (AB r):=by
 rw[R3.eq_1]at h;refine AM.intro (res:=[.tmp 4]) Tryz.func94 rfl rfl rfl (Nat.le_of_ble_eq_true rfl) ?_;refine .sr ?_;refine .box rfl 2 rfl (by decide) rfl rfl rfl fun n3=>?_;refine .a 5 ?_;refine .c (x:=AY (IntKind.u8.wrap (p1.tdiv (64:Int)))) (.quo rfl rfl rfl (by decide)) ?_;obtain⟨g4,h⟩:=AD h;refine .c (.idxP rfl rfl rfl g4 Tryz.underlying120 BE) ?_;refine .c (.load 0 rfl rfl rfl (.cast (.vidx (IntKind.u8.wrap (p1.tdiv (64:Int))) g4.1 g4.2 .here) (by omega)) Ec BE) ?_;refine .mv rfl rfl ?_;refine .c (x:=AY (p1.tmod (64:Int))) (.rem rfl rfl rfl (by decide)) ?_;obtain⟨g5,h⟩:=AD h;refine .c (x:=AL (Int.fdiv (Ag p0 (IntKind.u8.wrap (p1.tdiv (64:Int)))) (2 ^ (min (p1.tmod (64:Int)).toNat IntKind.u64.bits)))) (.shr rfl rfl rfl g5) ?_;refine .a 3 ?_;refine .nS [4] [] ?_;refine .rK [4] ?_;cases h;exact⟨[(AB (decide ((bits .and .u64 (Int.fdiv (Ag p0 (IntKind.u8.wrap (p1.tdiv (64:Int)))) (2 ^ (min (p1.tmod (64:Int)).toNat IntKind.u64.bits))) (1:Int))=(1:Int))))],⟨rfl,rfl,trivial⟩,rfl⟩
def Ia (k:Nat) (x5:(List Int)):Option ByteArray:=
 some ((strOfNums x5))
def FN (k:Nat) (rec8:((List Int)→Int→Option ByteArray)) (x7:Int) (x11:(List Int)):Option ByteArray:=
 rec8 x11 (AH (x7+(1:Int)))
def CM (k:Nat) (p0:(List (Vector Int 4))) (p1:Int):Nat→(List Int)→Int→Option ByteArray
 | 0,_,_=>none
 | j+1,x6,x7=>
   if x7<(p0.length:Int)then if 0≤x7∧x7<(p0.length:Int)then(R3 k (AC p0 x7) p1).bind fun t14=>
   if t14=true then if 0≤(IntKind.i64.wrap (x7.tdiv (8:Int)))∧(IntKind.i64.wrap (x7.tdiv (8:Int)))<(x6.length:Int)then if 0≤(u64 (x7.tmod (8:Int)))then if 0≤(IntKind.i64.wrap (x7.tdiv (8:Int)))∧(IntKind.i64.wrap (x7.tdiv (8:Int)))<(x6.length:Int)then FN k (CM k p0 p1 j) x7 (Ac x6 (IntKind.i64.wrap (x7.tdiv (8:Int))) (bits .or .u8 (AC x6 (IntKind.i64.wrap (x7.tdiv (8:Int)))) (IntKind.u8.wrap ((1:Int)*2 ^ (min (u64 (x7.tmod (8:Int))).toNat IntKind.u8.bits)))))
   else none
   else none
   else none
   else FN k (CM k p0 p1 j) x7 x6
   else none
   else Ia k x6
def O5 (k:Nat) (p0:(List (Vector Int 4))) (p1:Int):Option ByteArray:=
 if 0≤(IntKind.i64.wrap ((AH ((p0.length:Int)+(7:Int))).tdiv (8:Int)))∧(IntKind.i64.wrap ((AH ((p0.length:Int)+(7:Int))).tdiv (8:Int)))*(1:Int)≤140737488355328∧(IntKind.i64.wrap ((AH ((p0.length:Int)+(7:Int))).tdiv (8:Int)))≤9223372036854775807 then CM k p0 p1 k (List.replicate (IntKind.i64.wrap ((AH ((p0.length:Int)+(7:Int))).tdiv (8:Int))).toNat (0:Int)) (0:Int)
 else none
theorem Ol {k:Nat} {p0:(List (Vector Int 4))} {p1:Int} {r:ByteArray} (h:O5 k p0 p1=some r):AM Tryz.prog 91 [(.fz 4 (p0.map Cc)),(AY p1)] (AI r):=by
 rw[O5.eq_1]at h;refine AM.intro (res:=[.tmp 4]) Tryz.func91 rfl rfl rfl (Nat.le_of_ble_eq_true rfl) ?_;refine .a 9 ?_;refine .c (x:=AA (IntKind.i64.wrap ((AH ((p0.length:Int)+(7:Int))).tdiv (8:Int)))) (.quo rfl rfl rfl (by decide)) ?_;obtain⟨g4,h⟩:=AD h;refine .makeL (f:=AY) (0:Int) rfl 12 rfl (by decide) rfl rfl rfl Tryz.underlying130 Hr Vl Rv MR rfl g4 fun n3=>?_;refine .a 1 ?_;refine .nK [0,1,5] ?_;refine .seq_mid (fun ρ H=>∃ (x5:(List Int)),ρ=[(5,(.own n3 0 x5.length))]∧H=[(PS n3 x5)]∧Ia k x5=some r) ?_ ?_
 ·refine .a 7 ?_;refine .wK [1,5,13,14,15] ?_;refine .loop (fun kq ρ H=>∃ (x6:(List Int)) (x7:Int),ρ=[(1,(AY p1)),(5,(.own n3 0 x6.length)),(13,(.fz 4 (p0.map Cc))),(14,(AA (p0.length:Int))),(15,(AA x7))]∧H=[(PS n3 x6)]∧CM k p0 p1 kq x6 x7=some r) k ⟨(List.replicate (IntKind.i64.wrap ((AH ((p0.length:Int)+(7:Int))).tdiv (8:Int))).toNat (0:Int)),(0:Int),rfl,rfl,h⟩ ?_;rintro kq9 _ _ ⟨x6,x7,rfl,rfl,h⟩
  cases kq9 with
  | zero=>rw[CM.eq_1]at h;cases h
  | succ kq9=>
  rw[CM.eq_2]at h;generalize hrec8:CM k p0 p1 kq9=rec8 at h;refine .a 5 ?_;rcases oi h with⟨c10,h⟩|⟨c10,h⟩
  ·refine .a 1 ?_;refine .sK [1,5,13,14,15] ?_;refine .seq_mid (fun ρ H=>∃ (x11:(List Int)),ρ=[(1,(AY p1)),(5,(.own n3 0 x11.length)),(13,(.fz 4 (p0.map Cc))),(14,(AA (p0.length:Int))),(15,(AA x7))]∧H=[(PS n3 x11)]∧FN k rec8 x7 x11=some r) ?_ ?_
   ·refine .a 4 ?_;obtain⟨g12,h⟩:=AD h;refine .a 2 ?_;refine .alloc rfl 7 rfl (by decide) rfl Bq BP fun n13=>?_;refine .a 1 ?_;refine .store 0 rfl rfl rfl rfl rfl rfl (.cast .here rfl) rfl (by simp[AV.size]) (by rw[BX];simp[AV.size]) rfl ?_;refine .nS [1,5,6,7,13,14,15] [1,0] ?_;refine .a 4 ?_;obtain⟨t14,et14,h⟩:=ob h;refine .callS [(.ar 1 ((AC p0 x7).toList.map AL)),(AY p1)] (AB t14) 22 rfl (by decide) TP rfl rfl rfl ⟨rfl,rfl,rfl,rfl,trivial⟩ (J1 et14) ?_;refine .nS [1,5,6,13,14,15,22] [0] ?_;rcases oi h with⟨c15,h⟩|⟨c15,h⟩
    ·refine .a 4 ?_;refine .c (x:=AA (IntKind.i64.wrap (x7.tdiv (8:Int)))) (.quo rfl rfl rfl (by decide)) ?_;obtain⟨g16,h⟩:=AD h;refine .c (.idxO 0 rfl rfl rfl rfl g16 Tryz.underlying130 Hr) ?_;refine .c (.load 0 rfl rfl rfl (.cast (.lidx (IntKind.i64.wrap (x7.tdiv (8:Int))) g16.1 g16.2 .here) (by omega)) Se Hr) ?_;refine .mv rfl rfl ?_;refine .c (x:=AA (x7.tmod (8:Int))) (.rem rfl rfl rfl (by decide)) ?_;refine .a 1 ?_;obtain⟨g17,h⟩:=AD h;refine .c (x:=AY (IntKind.u8.wrap ((1:Int)*2 ^ (min (u64 (x7.tmod (8:Int))).toNat IntKind.u8.bits)))) (.shl rfl rfl rfl g17) ?_;refine .a 1 ?_;obtain⟨g18,h⟩:=AD h;refine .a 1 ?_;refine .store 0 rfl rfl rfl rfl rfl rfl (.cast (.lidx (IntKind.i64.wrap (x7.tdiv (8:Int))) (bits .or .u8 (AC x6 (IntKind.i64.wrap (x7.tdiv (8:Int)))) (IntKind.u8.wrap ((1:Int)*2 ^ (min (u64 (x7.tmod (8:Int))).toNat IntKind.u8.bits)))) g18.1 g18.2 .here) (by omega)) rfl rfl Hr rfl ?_;refine .coe 5 (y':=(.own n3 0 (Ac x6 (IntKind.i64.wrap (x7.tdiv (8:Int))) (bits .or .u8 (AC x6 (IntKind.i64.wrap (x7.tdiv (8:Int)))) (IntKind.u8.wrap ((1:Int)*2 ^ (min (u64 (x7.tmod (8:Int))).toNat IntKind.u8.bits))))).length)) rfl (fun _ _ h=>Av h) ?_;refine .coe 23 (y':=(.own n3 0 (Ac x6 (IntKind.i64.wrap (x7.tdiv (8:Int))) (bits .or .u8 (AC x6 (IntKind.i64.wrap (x7.tdiv (8:Int)))) (IntKind.u8.wrap ((1:Int)*2 ^ (min (u64 (x7.tmod (8:Int))).toNat IntKind.u8.bits))))).length)) rfl (fun _ _ h=>Av h) ?_;refine .nK [1,5,13,14,15] ?_
     exact⟨(Ac x6 (IntKind.i64.wrap (x7.tdiv (8:Int))) (bits .or .u8 (AC x6 (IntKind.i64.wrap (x7.tdiv (8:Int)))) (IntKind.u8.wrap ((1:Int)*2 ^ (min (u64 (x7.tmod (8:Int))).toNat IntKind.u8.bits))))),rfl,rfl,h⟩
    refine .a 1 ?_;refine .sK [1,5,13,14,15] ?_;exact⟨x6,rfl,rfl,h⟩
   rintro _ _ ⟨x11,rfl,rfl,h⟩;rw[FN.eq_1]at h;refine .a 3 ?_;refine .nK [1,5,13,14,15] ?_;exact⟨kq9,Nat.lt_succ_self _,x11,(AH (x7+(1:Int))),rfl,rfl,by rw[hrec8];exact h⟩
  refine .a 1 ?_;refine .eK [5] ?_;exact⟨x6,rfl,rfl,h⟩
 rintro _ _ ⟨x5,rfl,rfl,h⟩;rw[Ia.eq_1]at h;refine .a 3 ?_;refine .c (x:=AI (strOfNums x5)) (.strO 0 rfl rfl rfl Tryz.underlying130 Tryz.underlying9 Tryz.underlying5) ?_;refine .a 1 ?_;refine .nS [4] [] ?_;refine .rK [4] ?_;cases h;exact⟨[(AI (strOfNums x5))],⟨rfl,rfl,trivial⟩,rfl⟩
def Im (k:Nat) (x5:(Vector Int 256)):Option (Vector Int 256):=
 some (x5)
def Fy (k:Nat) (rec9:((Vector Int 256)→(List (ByteArray×Int))→Int→Option (Vector Int 256))) (x6:(Vector Int 256)) (x8:Int) (x13:(List (ByteArray×Int))) (x14:Int):Option (Vector Int 256):=
 if 0≤x8∧x8<(256:Int)then rec9 (BG x6 x8 (w8 x14)) x13 (AH (x8+(1:Int)))
 else none
def DA (k:Nat) (p0:(List (Vector Int 4))):Nat→(Vector Int 256)→(List (ByteArray×Int))→Int→Option (Vector Int 256)
 | 0,_,_,_=>none
 | j+1,x6,x7,x8=>
   if x8<(256:Int)then(O5 k p0 (w8 x8)).bind fun t12=>
   if(!((An x7 t12).isSome))=true then Fy k (DA k p0 j) x6 x8 (A1 x7 t12 (x7.length:Int)) (x7.length:Int)
   else Fy k (DA k p0 j) x6 x8 x7 ((An x7 t12).getD (0:Int))
   else Im k x6
def Ue (k:Nat) (p0:(List (Vector Int 4))):Option (Vector Int 256):=
 DA k p0 k (Vector.replicate 256 (0:Int)) ([]:List (ByteArray×Int)) (0:Int)
theorem M5 {k:Nat} {p0:(List (Vector Int 4))} {r:(Vector Int 256)} (h:Ue k p0=some r):AM Tryz.prog 67 [(.fz 4 (p0.map Cc))] (WS r):=by
 rw[Ue.eq_1]at h;refine AM.intro (res:=[.cell 2 38]) Tryz.func67 rfl rfl rfl (Nat.le_of_ble_eq_true rfl) ?_;refine .sr ?_;refine .alloc rfl 2 rfl (by decide) rfl UO Qi fun n2=>?_;refine .a 3 ?_;refine .alloc rfl 3 rfl (by decide) rfl UO Qi fun n3=>?_;refine .nS [0,2,3] [1,0] ?_;refine .sr ?_;refine .makeMap rfl 9 rfl (by decide) rfl fun n4=>?_;refine .a 1 ?_;refine .nS [0,2,3,4] [1,2,0] ?_;refine .seq_mid (fun ρ H=>∃ (x5:(Vector Int 256)),ρ=[(2,(.ptr n2 0)),(3,(.ptr n3 0))]∧H=[(Ba n2 ((Vector.replicate 256 (0:Int)).toList.map AY)),(Ba n3 (x5.toList.map AY))]∧Im k x5=some r) ?_ ?_
 ·refine .a 5 ?_;refine .wK [0,2,3,4,10] ?_;refine .loop (fun kq ρ H=>∃ (x6:(Vector Int 256)) (x7:(List (ByteArray×Int))) (x8:Int),ρ=[(0,(.fz 4 (p0.map Cc))),(2,(.ptr n2 0)),(3,(.ptr n3 0)),(4,(.mp n4)),(10,(AA x8))]∧H=[(Ba n2 ((Vector.replicate 256 (0:Int)).toList.map AY)),(Ba n3 (x6.toList.map AY)),(n4,(.map (Ae Value.string AA x7)))]∧DA k p0 kq x6 x7 x8=some r) k ⟨(Vector.replicate 256 (0:Int)),([]:List (ByteArray×Int)),(0:Int),rfl,rfl,h⟩ ?_;rintro kq10 _ _ ⟨x6,x7,x8,rfl,rfl,h⟩
  cases kq10 with
  | zero=>rw[DA.eq_1]at h;cases h
  | succ kq10=>
  rw[DA.eq_2]at h;generalize hrec9:DA k p0 kq10=rec9 at h;refine .a 5 ?_;rcases oi h with⟨c11,h⟩|⟨c11,h⟩
  ·refine .a 14 ?_;obtain⟨t12,et12,h⟩:=ob h;refine .callS [(.fz 4 (p0.map Cc)),(AY (w8 x8))] (AI t12) 16 rfl (by decide) WA rfl rfl rfl ⟨rfl,rfl,rfl,rfl,trivial⟩ (Ol et12) ?_;refine .a 6 ?_;refine .c (x:=.tup [(AA ((An x7 t12).getD (0:Int))),(AB ((An x7 t12).isSome))]) (.look2 (f:=AA) B2 B1 (0:Int) 2 rfl rfl rfl rfl Tryz.underlying97 Tryz.underlying9 Sb) ?_;refine .a 5 ?_;refine .nK [0,2,3,4,5,6,7,8,10] ?_;refine .seq_mid (fun ρ H=>∃ (x13:(List (ByteArray×Int))) (x14:Int),ρ=[(0,(.fz 4 (p0.map Cc))),(2,(.ptr n2 0)),(3,(.ptr n3 0)),(4,(.mp n4)),(5,(AA x8)),(7,(AA x14)),(10,(AA x8))]∧H=[(Ba n2 ((Vector.replicate 256 (0:Int)).toList.map AY)),(Ba n3 (x6.toList.map AY)),(n4,(.map (Ae Value.string AA x13)))]∧Fy k rec9 x6 x8 x13 x14=some r) ?_ ?_
   ·refine .a 5 ?_;rcases oi h with⟨c16,h⟩|⟨c16,h⟩
    ·refine .a 4 ?_;refine .c (x:=AA (x7.length:Int)) (.lenMap 2 rfl rfl rfl Tryz.underlying97) ?_;refine .a 6 ?_;refine .mapPut (f:=AA) B2 B1 2 rfl rfl rfl rfl rfl rfl rfl rfl Tryz.underlying97 Tryz.underlying9 ?_;refine .nK [0,2,3,4,5,7,10] ?_;exact⟨(A1 x7 t12 (x7.length:Int)),(x7.length:Int),rfl,rfl,h⟩
    refine .a 1 ?_;refine .sK [0,2,3,4,5,7,10] ?_;exact⟨x7,((An x7 t12).getD (0:Int)),rfl,rfl,h⟩
   rintro _ _ ⟨x13,x14,rfl,rfl,h⟩;rw[Fy.eq_1]at h;refine .a 4 ?_;obtain⟨g15,h⟩:=AD h;refine .c (.idxP rfl rfl rfl g15 Tryz.underlying38 Hr) ?_;refine .store 1 rfl rfl rfl rfl rfl rfl (.cast (.vidx x8 (w8 x14) g15.1 g15.2 .here) (by omega)) rfl rfl Hr rfl ?_;refine .a 4 ?_;refine .nK [0,2,3,4,10] ?_;exact⟨kq10,Nat.lt_succ_self _,(BG x6 x8 (w8 x14)),x13,(AH (x8+(1:Int))),rfl,rfl,by rw[hrec9];exact h⟩
  refine .a 1 ?_;refine .eH [2,3] (H':=[(Ba n2 ((Vector.replicate 256 (0:Int)).toList.map AY)),(Ba n3 (x6.toList.map AY))]) (.cons 0 rfl (.cons 0 rfl (.nil _))) ?_;exact⟨x6,rfl,rfl,h⟩
 rintro _ _ ⟨x5,rfl,rfl,h⟩;rw[Im.eq_1]at h;refine .a 3 ?_;refine .store 0 rfl rfl rfl rfl rfl rfl (.cast .here rfl) rfl (by simp[AV.size]) (by rw[PV];simp[AV.size]) rfl ?_;refine .nS [2] [0] ?_;refine .rK [2] ?_;have hr:=Option.some.inj h;subst hr;exact⟨[(.ar 1 (x5.toList.map AY))],⟨⟨_,0,rfl,rfl,UE,(by rw[PV];simp[AV.size])⟩,trivial⟩,rfl⟩
def I1 (k:Nat) (x6:(List Bool)):Option (List Bool):=
 some (x6)
def GE (k:Nat) (rec15:((List Bool)→Bool→Int→Option (List Bool))) (x14:Int) (x18:(List Bool)) (b19:Bool):Option (List Bool):=
 rec15 x18 b19 (AH (x14+(1:Int)))
def Dj (k:Nat) (rec9:((List Bool)→Bool→Option (List Bool))) (p0:Ay):Nat→(List Bool)→Bool→Int→Option (List Bool)
 | 0,_,_,_=>none
 | j+1,x12,b13,x14=>
   if x14<(p0.f1.length:Int)then if 0≤x14∧x14<(p0.f1.length:Int)then Option.bind (α:=Bool) (if((AC p0.f1 x14).f3)=true then if 0≤((AC p0.f1 x14).f0)∧((AC p0.f1 x14).f0)<(x12.length:Int)then if(AC x12 ((AC p0.f1 x14).f0))=true then if 0≤((AC p0.f1 x14).f1)∧((AC p0.f1 x14).f1)<(x12.length:Int)then some (!(AC x12 ((AC p0.f1 x14).f1)))
   else none
   else some (false)
   else none
   else some (false)) fun b22=>
   if b22=true then if 0≤((AC p0.f1 x14).f1)∧((AC p0.f1 x14).f1)<(x12.length:Int)then GE k (Dj k rec9 p0 j) x14 (Ac x12 ((AC p0.f1 x14).f1) true) true
   else none
   else GE k (Dj k rec9 p0 j) x14 x12 b13
   else none
   else rec9 x12 b13
def C9 (k:Nat) (p0:Ay):Nat→(List Bool)→Bool→Option (List Bool)
 | 0,_,_=>none
 | j+1,x7,b8=>
   if b8=true then Dj k (C9 k p0 j) p0 k x7 false (0:Int)
   else I1 k x7
def Sg (k:Nat) (p0:Ay) (p1:(List Bool)):Option (List Bool):=
 if 0≤p0.f0∧p0.f0*(1:Int)≤140737488355328∧p0.f0≤9223372036854775807 then C9 k p0 k (Cn (List.replicate p0.f0.toNat false) p1) true
 else none
theorem KN {k:Nat} {p0:Ay} {p1:(List Bool)} {r:(List Bool)} (h:Sg k p0 p1=some r):AM Tryz.prog 70 [(Bg p0),(.fz 1 (p1.map AB))] (IC r):=by
 rw[Sg.eq_1]at h;refine AM.intro (res:=[.tmp 4]) Tryz.func70 rfl rfl rfl (Nat.le_of_ble_eq_true rfl) ?_;refine .sr ?_;refine .box rfl 2 rfl (by decide) rfl rfl rfl fun n3=>?_;refine .a 6 ?_;obtain⟨g5,h⟩:=AD h;refine .makeL (f:=AB) false rfl 11 rfl (by decide) rfl rfl rfl Tryz.underlying95 C1 KS GV E8 rfl g5 fun n4=>?_;refine .a 1 ?_;refine .nS [1,2,5] [1,0] ?_;refine .a 4 ?_;refine .copyL (l:=(List.replicate p0.f0.toNat false)) (m:=p1) (f:=AB) 1 14 rfl (by decide) rfl rfl rfl rfl rfl Tryz.underlying95 C1 ?_;refine .coe 5 (y':=(.own n4 0 (Cn (List.replicate p0.f0.toNat false) p1).length)) rfl (fun _ _ h=>H4 h) ?_;refine .coe 12 (y':=(.own n4 0 (Cn (List.replicate p0.f0.toNat false) p1).length)) rfl (fun _ _ h=>H4 h) ?_;refine .nK [2,5] ?_;refine .seq_mid (fun ρ H=>∃ (x6:(List Bool)),ρ=[(5,(.own n4 0 x6.length))]∧H=[(Cy n4 x6)]∧I1 k x6=some r) ?_ ?_
 ·refine .a 5 ?_;refine .wK [2,5,6] ?_;refine .loop (fun kq ρ H=>∃ (x7:(List Bool)) (b8:Bool),ρ=[(2,(.ptr n3 0)),(5,(.own n4 0 x7.length)),(6,(AB b8))]∧H=[(n3,(.mem (Bg p0))),(Cy n4 x7)]∧C9 k p0 kq x7 b8=some r) k ⟨(Cn (List.replicate p0.f0.toNat false) p1),true,rfl,rfl,h⟩ ?_;rintro kq10 _ _ ⟨x7,b8,rfl,rfl,h⟩
  cases kq10 with
  | zero=>rw[C9.eq_1]at h;cases h
  | succ kq10=>
  rw[C9.eq_2]at h;generalize hrec9:C9 k p0 kq10=rec9 at h;refine .a 5 ?_;rcases oi h with⟨c11,h⟩|⟨c11,h⟩
  ·refine .a 15 ?_;refine .wK [2,5,6,17,18,19] ?_;refine .loop (fun kq ρ H=>∃ (x12:(List Bool)) (b13:Bool) (x14:Int),ρ=[(2,(.ptr n3 0)),(5,(.own n4 0 x12.length)),(6,(AB b13)),(17,(.fz 7 (p0.f1.map A9))),(18,(AA (p0.f1.length:Int))),(19,(AA x14))]∧H=[(n3,(.mem (Bg p0))),(Cy n4 x12)]∧Dj k rec9 p0 kq x12 b13 x14=some r) k ⟨x7,false,(0:Int),rfl,rfl,h⟩ ?_;rintro kq16 _ _ ⟨x12,b13,x14,rfl,rfl,h⟩
   cases kq16 with
   | zero=>rw[Dj.eq_1]at h;cases h
   | succ kq16=>
   rw[Dj.eq_2]at h;generalize hrec15:Dj k rec9 p0 kq16=rec15 at h;refine .a 5 ?_;rcases oi h with⟨c17,h⟩|⟨c17,h⟩
   ·refine .a 1 ?_;refine .sK [2,5,6,17,18,19] ?_;refine .seq_mid (fun ρ H=>∃ (x18:(List Bool)) (b19:Bool),ρ=[(2,(.ptr n3 0)),(5,(.own n4 0 x18.length)),(6,(AB b19)),(17,(.fz 7 (p0.f1.map A9))),(18,(AA (p0.f1.length:Int))),(19,(AA x14))]∧H=[(n3,(.mem (Bg p0))),(Cy n4 x18)]∧GE k rec15 x14 x18 b19=some r) ?_ ?_
    ·refine .a 3 ?_;obtain⟨g20,h⟩:=AD h;refine .a 2 ?_;refine .alloc rfl 8 rfl (by decide) rfl FH Eh fun n21=>?_;refine .store 0 rfl rfl rfl rfl rfl rfl (.cast .here rfl) rfl rfl Fe rfl ?_;refine .nS [2,5,6,8,17,18,19] [1,2,0] ?_;refine .seq ?_;obtain⟨b22,q23,h⟩:=ob h;refine .regM [(2,(.ptr n3 0)),(5,(.own n4 0 x12.length)),(6,(AB b13)),(8,(.ptr n21 0)),(17,(.fz 7 (p0.f1.map A9))),(18,(AA (p0.f1.length:Int))),(19,(AA x14)),(39,(AB b22))] [(n3,(.mem (Bg p0))),(Cy n4 x12),(n21,(.mem (A9 (AC p0.f1 x14))))] ?_ ?_
     ·refine .a 3 ?_;rcases oi q23 with⟨c24,q23⟩|⟨c24,q23⟩
      ·refine .a 3 ?_;obtain⟨g25,q23⟩:=AD q23;refine .cG rfl rfl (bD c24) (.idxO 1 rfl rfl rfl rfl g25 Tryz.underlying95 C1) ?_;refine .cG rfl rfl (bD c24) (.load 1 rfl rfl rfl (.cast (.lidx ((AC p0.f1 x14).f0) g25.1 g25.2 .here) (by omega)) TU C1) ?_;refine .c (.pickT rfl (bD c24) rfl) ?_;refine .mv rfl rfl ?_;rcases oi q23 with⟨c26,q23⟩|⟨c26,q23⟩
       ·refine .a 3 ?_;obtain⟨g27,q23⟩:=AD q23;refine .cG rfl rfl (bD c26) (.idxO 1 rfl rfl rfl rfl g27 Tryz.underlying95 C1) ?_;refine .cG rfl rfl (bD c26) (.load 1 rfl rfl rfl (.cast (.lidx ((AC p0.f1 x14).f1) g27.1 g27.2 .here) (by omega)) TU C1) ?_;refine .cG rfl rfl (bD c26) (.not rfl rfl) ?_;refine .c (.pickT rfl (bD c26) rfl) ?_;cases q23;refine .nilE ⟨rfl,rfl⟩ ?_ ?_
        ·exact⟨rfl,rfl,rfl,rfl,rfl,rfl,rfl,rfl,trivial⟩
        exact(.refl _)
       refine .a 7 ?_;cases q23;refine .nilE ⟨rfl,rfl⟩ ?_ ?_
       ·exact⟨rfl,rfl,rfl,rfl,rfl,rfl,rfl,rfl,trivial⟩
       exact(.refl _)
      refine .a 14 ?_;cases q23;refine .nilE ⟨rfl,rfl⟩ ?_ ?_
      ·exact⟨rfl,rfl,rfl,rfl,rfl,rfl,rfl,rfl,trivial⟩
      exact(.refl _)
     rcases oi h with⟨c28,h⟩|⟨c28,h⟩
     ·refine .a 5 ?_;obtain⟨g29,h⟩:=AD h;refine .a 1 ?_;refine .store 1 rfl rfl rfl rfl rfl rfl (.cast (.lidx ((AC p0.f1 x14).f1) true g29.1 g29.2 .here) (by omega)) rfl rfl C1 rfl ?_;refine .coe 5 (y':=(.own n4 0 (Ac x12 ((AC p0.f1 x14).f1) true).length)) rfl (fun _ _ h=>Av h) ?_;refine .coe 40 (y':=(.own n4 0 (Ac x12 ((AC p0.f1 x14).f1) true).length)) rfl (fun _ _ h=>Av h) ?_;refine .a 1 ?_;refine .nS [2,5,6,17,18,19] [0,1] ?_;exact⟨(Ac x12 ((AC p0.f1 x14).f1) true),true,rfl,rfl,h⟩
     refine .a 1 ?_;refine .sH [2,5,6,17,18,19] (H':=[(n3,(.mem (Bg p0))),(Cy n4 x12)]) (.cons 0 rfl (.cons 0 rfl (.nil _))) ?_;exact⟨x12,b13,rfl,rfl,h⟩
    rintro _ _ ⟨x18,b19,rfl,rfl,h⟩;rw[GE.eq_1]at h;refine .a 3 ?_;refine .nK [2,5,6,17,18,19] ?_;exact⟨kq16,Nat.lt_succ_self _,x18,b19,(AH (x14+(1:Int))),rfl,rfl,by rw[hrec15];exact h⟩
   refine .a 1 ?_;refine .eK [2,5,6] ?_;exact⟨kq10,Nat.lt_succ_self _,x12,b13,rfl,rfl,by rw[hrec9];exact h⟩
  refine .a 1 ?_;refine .eH [5] (H':=[(Cy n4 x7)]) (.cons 1 rfl (.nil _)) ?_;exact⟨x7,rfl,rfl,h⟩
 rintro _ _ ⟨x6,rfl,rfl,h⟩;rw[I1.eq_1]at h;refine .a 4 ?_;refine .nK [4] ?_;refine .freezeS 0 [(4,(.fz 1 (x6.map AB)))] rfl ⟨Ad rfl,trivial⟩ ?_;refine .rK [4] ?_;have hr:=Option.some.inj h;subst hr;exact⟨[(.fz 1 (x6.map AB))],⟨rfl,rfl,trivial⟩,rfl⟩
def LK (k:Nat) (x4:(List Int)):Option ByteArray:=
 some ((strOfNums x4))
def Hm (k:Nat) (rec7:((List Int)→Int→Option ByteArray)) (x6:Int) (x10:(List Int)):Option ByteArray:=
 rec7 x10 (AH (x6+(1:Int)))
def Dd (k:Nat) (p0:(List Bool)):Nat→(List Int)→Int→Option ByteArray
 | 0,_,_=>none
 | j+1,x5,x6=>
   if x6<(p0.length:Int)then if 0≤x6∧x6<(p0.length:Int)then if(AC p0 x6)=true then if 0≤(IntKind.i64.wrap (x6.tdiv (8:Int)))∧(IntKind.i64.wrap (x6.tdiv (8:Int)))<(x5.length:Int)then if 0≤(u64 (x6.tmod (8:Int)))then if 0≤(IntKind.i64.wrap (x6.tdiv (8:Int)))∧(IntKind.i64.wrap (x6.tdiv (8:Int)))<(x5.length:Int)then Hm k (Dd k p0 j) x6 (Ac x5 (IntKind.i64.wrap (x6.tdiv (8:Int))) (bits .or .u8 (AC x5 (IntKind.i64.wrap (x6.tdiv (8:Int)))) (IntKind.u8.wrap ((1:Int)*2 ^ (min (u64 (x6.tmod (8:Int))).toNat IntKind.u8.bits)))))
   else none
   else none
   else none
   else Hm k (Dd k p0 j) x6 x5
   else none
   else LK k x5
def SJ (k:Nat) (p0:(List Bool)):Option ByteArray:=
 if 0≤(IntKind.i64.wrap ((AH ((p0.length:Int)+(7:Int))).tdiv (8:Int)))∧(IntKind.i64.wrap ((AH ((p0.length:Int)+(7:Int))).tdiv (8:Int)))*(1:Int)≤140737488355328∧(IntKind.i64.wrap ((AH ((p0.length:Int)+(7:Int))).tdiv (8:Int)))≤9223372036854775807 then Dd k p0 k (List.replicate (IntKind.i64.wrap ((AH ((p0.length:Int)+(7:Int))).tdiv (8:Int))).toNat (0:Int)) (0:Int)
 else none
theorem O4 {k:Nat} {p0:(List Bool)} {r:ByteArray} (h:SJ k p0=some r):AM Tryz.prog 92 [(.fz 1 (p0.map AB))] (AI r):=by
 rw[SJ.eq_1]at h;refine AM.intro (res:=[.tmp 2]) Tryz.func92 rfl rfl rfl (Nat.le_of_ble_eq_true rfl) ?_;refine .a 9 ?_;refine .c (x:=AA (IntKind.i64.wrap ((AH ((p0.length:Int)+(7:Int))).tdiv (8:Int)))) (.quo rfl rfl rfl (by decide)) ?_;obtain⟨g3,h⟩:=AD h;refine .makeL (f:=AY) (0:Int) rfl 10 rfl (by decide) rfl rfl rfl Tryz.underlying130 Hr Vl Rv MR rfl g3 fun n2=>?_;refine .a 1 ?_;refine .nK [0,3] ?_;refine .seq_mid (fun ρ H=>∃ (x4:(List Int)),ρ=[(3,(.own n2 0 x4.length))]∧H=[(PS n2 x4)]∧LK k x4=some r) ?_ ?_
 ·refine .a 7 ?_;refine .wK [3,11,12,13] ?_;refine .loop (fun kq ρ H=>∃ (x5:(List Int)) (x6:Int),ρ=[(3,(.own n2 0 x5.length)),(11,(.fz 1 (p0.map AB))),(12,(AA (p0.length:Int))),(13,(AA x6))]∧H=[(PS n2 x5)]∧Dd k p0 kq x5 x6=some r) k ⟨(List.replicate (IntKind.i64.wrap ((AH ((p0.length:Int)+(7:Int))).tdiv (8:Int))).toNat (0:Int)),(0:Int),rfl,rfl,h⟩ ?_;rintro kq8 _ _ ⟨x5,x6,rfl,rfl,h⟩
  cases kq8 with
  | zero=>rw[Dd.eq_1]at h;cases h
  | succ kq8=>
  rw[Dd.eq_2]at h;generalize hrec7:Dd k p0 kq8=rec7 at h;refine .a 5 ?_;rcases oi h with⟨c9,h⟩|⟨c9,h⟩
  ·refine .a 1 ?_;refine .sK [3,11,12,13] ?_;refine .seq_mid (fun ρ H=>∃ (x10:(List Int)),ρ=[(3,(.own n2 0 x10.length)),(11,(.fz 1 (p0.map AB))),(12,(AA (p0.length:Int))),(13,(AA x6))]∧H=[(PS n2 x10)]∧Hm k rec7 x6 x10=some r) ?_ ?_
   ·refine .a 4 ?_;obtain⟨g11,h⟩:=AD h;refine .a 9 ?_;rcases oi h with⟨c12,h⟩|⟨c12,h⟩
    ·refine .a 4 ?_;refine .c (x:=AA (IntKind.i64.wrap (x6.tdiv (8:Int)))) (.quo rfl rfl rfl (by decide)) ?_;obtain⟨g13,h⟩:=AD h;refine .c (.idxO 0 rfl rfl rfl rfl g13 Tryz.underlying130 Hr) ?_;refine .c (.load 0 rfl rfl rfl (.cast (.lidx (IntKind.i64.wrap (x6.tdiv (8:Int))) g13.1 g13.2 .here) (by omega)) Se Hr) ?_;refine .mv rfl rfl ?_;refine .c (x:=AA (x6.tmod (8:Int))) (.rem rfl rfl rfl (by decide)) ?_;refine .a 1 ?_;obtain⟨g14,h⟩:=AD h;refine .c (x:=AY (IntKind.u8.wrap ((1:Int)*2 ^ (min (u64 (x6.tmod (8:Int))).toNat IntKind.u8.bits)))) (.shl rfl rfl rfl g14) ?_;refine .a 1 ?_;obtain⟨g15,h⟩:=AD h;refine .a 1 ?_;refine .store 0 rfl rfl rfl rfl rfl rfl (.cast (.lidx (IntKind.i64.wrap (x6.tdiv (8:Int))) (bits .or .u8 (AC x5 (IntKind.i64.wrap (x6.tdiv (8:Int)))) (IntKind.u8.wrap ((1:Int)*2 ^ (min (u64 (x6.tmod (8:Int))).toNat IntKind.u8.bits)))) g15.1 g15.2 .here) (by omega)) rfl rfl Hr rfl ?_;refine .coe 3 (y':=(.own n2 0 (Ac x5 (IntKind.i64.wrap (x6.tdiv (8:Int))) (bits .or .u8 (AC x5 (IntKind.i64.wrap (x6.tdiv (8:Int)))) (IntKind.u8.wrap ((1:Int)*2 ^ (min (u64 (x6.tmod (8:Int))).toNat IntKind.u8.bits))))).length)) rfl (fun _ _ h=>Av h) ?_;refine .coe 19 (y':=(.own n2 0 (Ac x5 (IntKind.i64.wrap (x6.tdiv (8:Int))) (bits .or .u8 (AC x5 (IntKind.i64.wrap (x6.tdiv (8:Int)))) (IntKind.u8.wrap ((1:Int)*2 ^ (min (u64 (x6.tmod (8:Int))).toNat IntKind.u8.bits))))).length)) rfl (fun _ _ h=>Av h) ?_;refine .nK [3,11,12,13] ?_
     exact⟨(Ac x5 (IntKind.i64.wrap (x6.tdiv (8:Int))) (bits .or .u8 (AC x5 (IntKind.i64.wrap (x6.tdiv (8:Int)))) (IntKind.u8.wrap ((1:Int)*2 ^ (min (u64 (x6.tmod (8:Int))).toNat IntKind.u8.bits))))),rfl,rfl,h⟩
    refine .a 1 ?_;refine .sK [3,11,12,13] ?_;exact⟨x5,rfl,rfl,h⟩
   rintro _ _ ⟨x10,rfl,rfl,h⟩;rw[Hm.eq_1]at h;refine .a 3 ?_;refine .nK [3,11,12,13] ?_;exact⟨kq8,Nat.lt_succ_self _,x10,(AH (x6+(1:Int))),rfl,rfl,by rw[hrec7];exact h⟩
  refine .a 1 ?_;refine .eK [3] ?_;exact⟨x5,rfl,rfl,h⟩
 rintro _ _ ⟨x4,rfl,rfl,h⟩;rw[LK.eq_1]at h;refine .a 3 ?_;refine .c (x:=AI (strOfNums x4)) (.strO 0 rfl rfl rfl Tryz.underlying130 Tryz.underlying9 Tryz.underlying5) ?_;refine .a 1 ?_;refine .nS [2] [] ?_;refine .rK [2] ?_;cases h;exact⟨[(AI (strOfNums x4))],⟨rfl,rfl,trivial⟩,rfl⟩
def P0 (k:Nat) (p0:(List Int)) (p1:Int):Option Int:=
 if(p0.length:Int)≤p1 then some ((-1:Int))
 else if 0≤p1∧p1<(p0.length:Int)then some ((AC p0 p1))
 else none
theorem MT {k:Nat} {p0:(List Int)} {p1:Int} {r:Int} (h:P0 k p0 p1=some r):AM Tryz.prog 115 [(.fz 1 (p0.map AA)),(AA p1)] (AA r):=by
 rw[P0.eq_1]at h;refine AM.intro (res:=[.tmp 4]) Tryz.func115 rfl rfl rfl (Nat.le_of_ble_eq_true rfl) ?_;refine .a 12 ?_;rcases oi h with⟨c3,h⟩|⟨c3,h⟩
 ·refine .a 4 ?_;refine .nK [4] ?_;refine .rK [4] ?_;cases h;exact⟨[(AA (-1:Int))],⟨rfl,rfl,trivial⟩,rfl⟩
 refine .a 6 ?_;obtain⟨g4,h⟩:=AD h;refine .a 3 ?_;refine .nK [4] ?_;refine .rK [4] ?_;cases h;exact⟨[(AA (AC p0 p1))],⟨rfl,rfl,trivial⟩,rfl⟩
def Kt (k:Nat) (x3:Int):Option Int:=
 some (x3)
def Hj (k:Nat) (rec6:(Int→Int→Option Int)) (x5:Int) (x9:Int):Option Int:=
 rec6 x9 (AH (x5+(1:Int)))
def De (k:Nat) (p0:Cw) (p1:(List Bool)):Nat→Int→Int→Option Int
 | 0,_,_=>none
 | j+1,x4,x5=>
   if x5<(p1.length:Int)then if 0≤x5∧x5<(p1.length:Int)then(P0 k p0.f1 x5).bind fun t11=>
   Option.bind (α:=Bool) (if(AC p1 x5)=true then if(0:Int)≤t11 then if x4<(0:Int)then some (true)
   else some (decide (t11<x4))
   else some (false)
   else some (false)) fun b12=>
   if b12=true then Hj k (De k p0 p1 j) x5 t11
   else Hj k (De k p0 p1 j) x5 x4
   else none
   else Kt k x4
def Uc (k:Nat) (p0:Cw) (p1:(List Bool)):Option Int:=
 De k p0 p1 k (-1:Int) (0:Int)
theorem Oq {k:Nat} {p0:Cw} {p1:(List Bool)} {r:Int} (h:Uc k p0 p1=some r) {q0:Nat} {q0_0:Nat} {q0_1:Nat} {q0_2:Nat} {q0_3:Nat} {T0:AN}:Al Tryz.prog 93 [(.ptr q0 0),(.fz 1 (p1.map AB))] ((q0,(.mem (.st [(4,(Bg p0.f0)),(1,(.fz 1 (p0.f1.map AA))),(1,(.fz 1 (p0.f2.map AY))),(1,(.mp q0_0)),(1,(.own q0_1 0 p0.f4.length)),(258,(.st [(256,(.ar 1 (p0.f5.f0.toList.map AY))),(1,(.own q0_2 0 p0.f5.f1.length)),(1,(.own q0_3 0 p0.f5.f2.length))]))])))::(q0_0,(.map (Ae Value.string AA p0.f3)))::(q0_1,(.mem (.ar 1 (p0.f4.map IC))))::(q0_2,(.mem (.ar 1 (p0.f5.f1.map GY))))::(q0_3,(.mem (.ar 1 (p0.f5.f2.map AA))))::T0) (fun x H'=>x=AA r∧BS ((q0,(.mem (.st [(4,(Bg p0.f0)),(1,(.fz 1 (p0.f1.map AA))),(1,(.fz 1 (p0.f2.map AY))),(1,(.mp q0_0)),(1,(.own q0_1 0 p0.f4.length)),(258,(.st [(256,(.ar 1 (p0.f5.f0.toList.map AY))),(1,(.own q0_2 0 p0.f5.f1.length)),(1,(.own q0_3 0 p0.f5.f2.length))]))])))::(q0_0,(.map (Ae Value.string AA p0.f3)))::(q0_1,(.mem (.ar 1 (p0.f4.map IC))))::(q0_2,(.mem (.ar 1 (p0.f5.f1.map GY))))::(q0_3,(.mem (.ar 1 (p0.f5.f2.map AA))))::T0) H'):=by
 rw[Uc.eq_1]at h;refine Al.intro (res:=[.tmp 4]) Tryz.func93 rfl rfl rfl (Nat.le_of_ble_eq_true rfl) ?_;refine .a 7 ?_;refine .nK [0,1,5] ?_;refine .seq_mid (fun ρ H=>∃ (x3:Int),ρ=[(5,(AA x3))]∧H=((Z1 q0 p0.f0 p0.f1 p0.f2 q0_0 q0_1 p0.f4.length (p0.f5.f0.toList.map AY) q0_2 p0.f5.f1.length q0_3 p0.f5.f2.length)::(q0_0,(.map (Ae Value.string AA p0.f3)))::(Z9 q0_1 p0.f4)::(Z8 q0_2 p0.f5.f1)::(q0_3,(Z7 p0.f5.f2))::T0)∧Kt k x3=some r) ?_ ?_
 ·refine .a 7 ?_;refine .wK [0,5,9,10,11] ?_;refine .loop (fun kq ρ H=>∃ (x4:Int) (x5:Int),ρ=[(0,(.ptr q0 0)),(5,(AA x4)),(9,(.fz 1 (p1.map AB))),(10,(AA (p1.length:Int))),(11,(AA x5))]∧H=((Z1 q0 p0.f0 p0.f1 p0.f2 q0_0 q0_1 p0.f4.length (p0.f5.f0.toList.map AY) q0_2 p0.f5.f1.length q0_3 p0.f5.f2.length)::(q0_0,(.map (Ae Value.string AA p0.f3)))::(Z9 q0_1 p0.f4)::(Z8 q0_2 p0.f5.f1)::(q0_3,(Z7 p0.f5.f2))::T0)∧De k p0 p1 kq x4 x5=some r) k ⟨(-1:Int),(0:Int),rfl,rfl,h⟩ ?_;rintro kq7 _ _ ⟨x4,x5,rfl,rfl,h⟩
  cases kq7 with
  | zero=>rw[De.eq_1]at h;cases h
  | succ kq7=>
  rw[De.eq_2]at h;generalize hrec6:De k p0 p1 kq7=rec6 at h;refine .a 5 ?_;rcases oi h with⟨c8,h⟩|⟨c8,h⟩
  ·refine .a 1 ?_;refine .sK [0,5,9,10,11] ?_;refine .seq_mid (fun ρ H=>∃ (x9:Int),ρ=[(0,(.ptr q0 0)),(5,(AA x9)),(9,(.fz 1 (p1.map AB))),(10,(AA (p1.length:Int))),(11,(AA x5))]∧H=((Z1 q0 p0.f0 p0.f1 p0.f2 q0_0 q0_1 p0.f4.length (p0.f5.f0.toList.map AY) q0_2 p0.f5.f1.length q0_3 p0.f5.f2.length)::(q0_0,(.map (Ae Value.string AA p0.f3)))::(Z9 q0_1 p0.f4)::(Z8 q0_2 p0.f5.f1)::(q0_3,(Z7 p0.f5.f2))::T0)∧Hj k rec6 x5 x9=some r) ?_ ?_
   ·refine .a 4 ?_;obtain⟨g10,h⟩:=AD h;refine .a 12 ?_;obtain⟨t11,et11,h⟩:=ob h;refine .callS [(Gy p0.f1),(AA x5)] (AA t11) 21 rfl (by decide) Tz rfl rfl rfl ⟨rfl,rfl,rfl,rfl,trivial⟩ (MT et11) ?_;refine .a 3 ?_;obtain⟨b12,q13,h⟩:=ob h;refine .regM [(0,(.ptr q0 0)),(5,(AA x4)),(8,(AA t11)),(9,(.fz 1 (p1.map AB))),(10,(AA (p1.length:Int))),(11,(AA x5)),(35,(AB b12))] ((Z1 q0 p0.f0 p0.f1 p0.f2 q0_0 q0_1 p0.f4.length (p0.f5.f0.toList.map AY) q0_2 p0.f5.f1.length q0_3 p0.f5.f2.length)::(q0_0,(.map (Ae Value.string AA p0.f3)))::(Z9 q0_1 p0.f4)::(Z8 q0_2 p0.f5.f1)::(q0_3,(Z7 p0.f5.f2))::T0) ?_ ?_
    ·refine .a 2 ?_;rcases oi q13 with⟨c14,q13⟩|⟨c14,q13⟩
     ·refine .a 4 ?_;rcases oi q13 with⟨c15,q13⟩|⟨c15,q13⟩
      ·refine .a 3 ?_;rcases oi q13 with⟨c16,q13⟩|⟨c16,q13⟩
       ·refine .a 5 ?_;cases q13;refine .nilE ⟨rfl,rfl⟩ ?_ ?_
        ·exact⟨rfl,rfl,rfl,rfl,rfl,rfl,rfl,trivial⟩
        exact(.refl _)
       refine .a 5 ?_;cases q13;refine .nilE ⟨rfl,rfl⟩ ?_ ?_
       ·exact⟨rfl,rfl,rfl,rfl,rfl,rfl,rfl,trivial⟩
       exact(.refl _)
      refine .a 8 ?_;cases q13;refine .nilE ⟨rfl,rfl⟩ ?_ ?_
      ·exact⟨rfl,rfl,rfl,rfl,rfl,rfl,rfl,trivial⟩
      exact(.refl _)
     refine .a 12 ?_;cases q13;refine .nilE ⟨rfl,rfl⟩ ?_ ?_
     ·exact⟨rfl,rfl,rfl,rfl,rfl,rfl,rfl,trivial⟩
     exact(.refl _)
    rcases oi h with⟨c17,h⟩|⟨c17,h⟩
    ·refine .a 4 ?_;refine .nK [0,5,9,10,11] ?_;exact⟨t11,rfl,rfl,h⟩
    refine .a 1 ?_;refine .sK [0,5,9,10,11] ?_;exact⟨x4,rfl,rfl,h⟩
   rintro _ _ ⟨x9,rfl,rfl,h⟩;rw[Hj.eq_1]at h;refine .a 3 ?_;refine .nK [0,5,9,10,11] ?_;exact⟨kq7,Nat.lt_succ_self _,x9,(AH (x5+(1:Int))),rfl,rfl,by rw[hrec6];exact h⟩
  refine .a 1 ?_;refine .eK [5] ?_;exact⟨x4,rfl,rfl,h⟩
 rintro _ _ ⟨x3,rfl,rfl,h⟩;rw[Kt.eq_1]at h;refine .a 4 ?_;refine .nK [4] ?_;refine .rK [4] ?_;have hr:=Option.some.inj h;subst hr;exact⟨[(AA x3)],⟨rfl,rfl,trivial⟩,rfl,(.cons 0 rfl (.cons 0 rfl (.cons 0 rfl (.cons 0 rfl (.cons 0 rfl (.refl _))))))⟩
end Go.Avl.TC
