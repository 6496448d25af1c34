/- Parts: TCf126, TCf128, TCf63, TCf36, TCf64, TCf114, TCf89, TCf90. -/
import Derived.Test.YtpkgpmmcbpfenaaGreatAF1
namespace Go.Avl.TC
open Go Go.RowKit Go.Proofs Go.Avl
set_option linter.unusedVariables false
set_option maxRecDepth 100000
set_option maxHeartbeats 4000000
set_option linter.unusedSimpArgs false
attribute [local irreducible] AW AO AQ AM Al AG
def E7 (k:Nat) (x5:ByteArray) (x6:Int) (x7:Int) (x9:(Vector Int 4)):Option ((List AE)×Bool×Aa):=
 (Hw k (Aa.mk x5 x6 x7) (93:Int)).bind fun t11=>
 if t11.1=true then(Sp k x9).bind fun t14=>
 some ([(AE.mk (1:Int) x9)], !t14,t11.2)
 else some ([(AE.mk (1:Int) x9)],false,t11.2)
def Gu (k:Nat) (t2:(Bool×Aa)) (x5:ByteArray) (x6:Int) (x7:Int) (x8:(Vector Int 4)):Option ((List AE)×Bool×Aa):=
 if t2.1=true then(M4 k x8).bind fun t16=>
 E7 k x5 x6 x7 t16
 else E7 k x5 x6 x7 x8
def D7 (k:Nat) (rec21:(ByteArray→Int→Int→(Vector Int 4)→Option ((List AE)×Bool×Aa))) (x20:(Vector Int 4)) (t29:(Int×Bool×Aa)) (x32:ByteArray) (x33:Int) (x34:Int) (x35:Int):Option ((List AE)×Bool×Aa):=
 (MZ k t29.1 x35).bind fun t36=>
 (P8 k x20 t36).bind fun t37=>
 rec21 x32 x33 x34 t37
def CU (k:Nat) (t2:(Bool×Aa)):Nat→ByteArray→Int→Int→(Vector Int 4)→Option ((List AE)×Bool×Aa)
 | 0,_,_,_,_=>none
 | j+1,x17,x18,x19,x20=>
   (I3 k (Aa.mk x17 x18 x19) (ByteArray.mk #[93])).bind fun t23=>
   if(!t23)=true then(I3 k (Aa.mk x17 x18 x19) (ByteArray.mk #[94,45,47,34])).bind fun t26=>
   if t26=true then some ([],false,(Aa.mk x17 x18 x19))
   else(JR k (Aa.mk x17 x18 x19)).bind fun t29=>
   if(!t29.2.1)=true then some ([],false,t29.2.2)
   else(Hw k t29.2.2 (45:Int)).bind fun t38=>
   if t38.1=true then(I3 k t38.2 (ByteArray.mk #[93,94,45,47,34])).bind fun t41=>
   if t41=true then some ([],false,t38.2)
   else(JR k t38.2).bind fun t44=>
   Option.bind (α:=Bool) (if(!t44.2.1)=true then some (true)
   else some (decide (t44.1<t29.1))) fun b46=>
   if b46=true then some ([],false,t44.2.2)
   else D7 k (CU k t2 j) x20 t29 t44.2.2.f0 t44.2.2.f1 t44.2.2.f2 t44.1
   else D7 k (CU k t2 j) x20 t29 t38.2.f0 t38.2.f1 t38.2.f2 t29.1
   else Gu k t2 x17 x18 x19 x20
def NJ (k:Nat) (p0:Aa):Option ((List AE)×Bool×Aa):=
 (Hw k p0 (94:Int)).bind fun t2=>
 CU k t2 k t2.2.f0 t2.2.f1 t2.2.f2 (Vector.replicate 4 (0:Int))
theorem Mu {k:Nat} {p0:Aa} {r:((List AE)×Bool×Aa)} (h:NJ k p0=some r) {q0:Nat} {T0:AN}:Al Tryz.prog 126 [(.ptr q0 0)] ((q0,(.mem (CN p0)))::T0) (fun x H'=>x=.tup [(.fz 5 (r.1.map AJ)),(AB r.2.1)]∧BS ((q0,(.mem (CN r.2.2)))::T0) H'):=by
 rw[NJ.eq_1]at h;refine Al.intro (res:=[.tmp 2,.tmp 3]) Tryz.func126 rfl rfl rfl (Nat.le_of_ble_eq_true rfl) ?_;refine .a 8 ?_;obtain⟨t2,et2,h⟩:=ob h;refine .callH [(.ptr q0 0),(AY (94:Int))] ((q0,(.mem (CN p0)))::T0) _ rfl rfl rfl 10 rfl (by decide) GD ⟨rfl,rfl,rfl,rfl,trivial⟩ (.cons 0 rfl (.refl _)) (BQ et2) ?_;rintro _ _ ⟨rfl,hs3⟩;refine .wH [0,9,10] hs3 ?_;refine .a 4 ?_;refine .alloc rfl 5 rfl (by decide) rfl Bq BP fun n4=>?_;refine .nH [0,4,5] (H':=((EI q0 t2.2)::(Ba n4 ((Vector.replicate 4 (0:Int)).toList.map AL))::T0)) (.cons 1 rfl (.cons 0 rfl (.refl _))) ?_;refine .seq_mid (fun ρ H=>∃ (x5:ByteArray) (x6:Int) (x7:Int) (x8:(Vector Int 4)),ρ=[(0,(.ptr q0 0)),(4,(AB t2.1)),(5,(.ptr n4 0))]∧H=((IB q0 x5 x6 x7)::(Ba n4 (x8.toList.map AL))::T0)∧Gu k t2 x5 x6 x7 x8=some r) ?_ ?_
 ·refine .a 1 ?_;refine .wK [0,4,5] ?_;refine .loop (fun kq ρ H=>∃ (x17:ByteArray) (x18:Int) (x19:Int) (x20:(Vector Int 4)),ρ=[(0,(.ptr q0 0)),(4,(AB t2.1)),(5,(.ptr n4 0))]∧H=((IB q0 x17 x18 x19)::(Ba n4 (x20.toList.map AL))::T0)∧CU k t2 kq x17 x18 x19 x20=some r) k ⟨t2.2.f0,t2.2.f1,t2.2.f2,(Vector.replicate 4 (0:Int)),rfl,rfl,h⟩ ?_;rintro kq22 _ _ ⟨x17,x18,x19,x20,rfl,rfl,h⟩
  cases kq22 with
  | zero=>rw[CU.eq_1]at h;cases h
  | succ kq22=>
  rw[CU.eq_2]at h;generalize hrec21:CU k t2 kq22=rec21 at h;refine .a 4 ?_;obtain⟨t23,et23,h⟩:=ob h;refine .callH [(.ptr q0 0),(AI (ByteArray.mk #[93]))] ((EI q0 (Aa.mk x17 x18 x19))::(Ba n4 (x20.toList.map AL))::T0) _ rfl rfl rfl 12 rfl (by decide) J5 ⟨rfl,rfl,rfl,rfl,trivial⟩ (.cons 0 rfl (.refl _)) (D2 et23) ?_;rintro _ _ ⟨rfl,hs24⟩;refine .wH [0,4,5,11,12] hs24 ?_;refine .a 2 ?_;rcases oi h with⟨c25,h⟩|⟨c25,h⟩
  ·refine .a 7 ?_;obtain⟨t26,et26,h⟩:=ob h;refine .callH [(.ptr q0 0),(AI (ByteArray.mk #[94,45,47,34]))] ((EI q0 (Aa.mk x17 x18 x19))::(Ba n4 (x20.toList.map AL))::T0) _ rfl rfl rfl 15 rfl (by decide) J5 ⟨rfl,rfl,rfl,rfl,trivial⟩ (.cons 0 rfl (.refl _)) (D2 et26) ?_;rintro _ _ ⟨rfl,hs27⟩;refine .wH [0,4,5,14,15] hs27 ?_;refine .a 1 ?_;rcases oi h with⟨c28,h⟩|⟨c28,h⟩
   ·refine .a 5 ?_;refine .nH [2,3] (H':=((IB q0 x17 x18 x19)::T0)) (.cons 0 rfl (.drop (.refl _))) ?_;refine .coeC 2 (y':=(BK ([]:List AE))) rfl EW.nil ?_;refine .rK [2,3] ?_;cases h;exact⟨[(BK ([]:List AE)),(AB false)],⟨rfl,rfl,rfl,rfl,trivial⟩,rfl,(.cons 0 rfl (.refl _))⟩
   refine .a 5 ?_;obtain⟨t29,et29,h⟩:=ob h;refine .callH [(.ptr q0 0)] ((EI q0 (Aa.mk x17 x18 x19))::(Ba n4 (x20.toList.map AL))::T0) _ rfl rfl rfl 18 rfl (by decide) PE ⟨rfl,rfl,trivial⟩ (.cons 0 rfl (.refl _)) (GM et29) ?_;rintro _ _ ⟨rfl,hs30⟩;refine .wH [0,4,5,17,18] hs30 ?_;refine .a 12 ?_;rcases oi h with⟨c31,h⟩|⟨c31,h⟩
   ·refine .a 5 ?_;refine .nH [2,3] (H':=((EI q0 t29.2.2)::T0)) (.cons 0 rfl (.drop (.refl _))) ?_;refine .coeC 2 (y':=(BK ([]:List AE))) rfl EW.nil ?_;refine .rK [2,3] ?_;cases h;exact⟨[(BK ([]:List AE)),(AB false)],⟨rfl,rfl,rfl,rfl,trivial⟩,rfl,(.cons 0 rfl (.refl _))⟩
   refine .a 6 ?_;refine .nK [0,4,5,6,8] ?_;refine .seq_mid (fun ρ H=>∃ (x32:ByteArray) (x33:Int) (x34:Int) (x35:Int),ρ=[(0,(.ptr q0 0)),(4,(AB t2.1)),(5,(.ptr n4 0)),(6,(AY t29.1)),(8,(AY x35))]∧H=((IB q0 x32 x33 x34)::(Ba n4 (x20.toList.map AL))::T0)∧D7 k rec21 x20 t29 x32 x33 x34 x35=some r) ?_ ?_
   ·refine .a 3 ?_;obtain⟨t38,et38,h⟩:=ob h;refine .callH [(.ptr q0 0),(AY (45:Int))] ((EI q0 t29.2.2)::(Ba n4 (x20.toList.map AL))::T0) _ rfl rfl rfl 25 rfl (by decide) GD ⟨rfl,rfl,rfl,rfl,trivial⟩ (.cons 0 rfl (.refl _)) (BQ et38) ?_;rintro _ _ ⟨rfl,hs39⟩;refine .wH [0,4,5,6,8,24,25] hs39 ?_;refine .a 1 ?_;rcases oi h with⟨c40,h⟩|⟨c40,h⟩
    ·refine .a 5 ?_;obtain⟨t41,et41,h⟩:=ob h;refine .callH [(.ptr q0 0),(AI (ByteArray.mk #[93,94,45,47,34]))] ((EI q0 t38.2)::(Ba n4 (x20.toList.map AL))::T0) _ rfl rfl rfl 27 rfl (by decide) J5 ⟨rfl,rfl,rfl,rfl,trivial⟩ (.cons 0 rfl (.refl _)) (D2 et41) ?_;rintro _ _ ⟨rfl,hs42⟩;refine .wH [0,4,5,6,8,25,26,27] hs42 ?_;refine .a 1 ?_;rcases oi h with⟨c43,h⟩|⟨c43,h⟩
     ·refine .a 5 ?_;refine .nH [2,3] (H':=((EI q0 t38.2)::T0)) (.cons 0 rfl (.drop (.refl _))) ?_;refine .coeC 2 (y':=(BK ([]:List AE))) rfl EW.nil ?_;refine .rK [2,3] ?_;cases h;exact⟨[(BK ([]:List AE)),(AB false)],⟨rfl,rfl,rfl,rfl,trivial⟩,rfl,(.cons 0 rfl (.refl _))⟩
     refine .a 5 ?_;obtain⟨t44,et44,h⟩:=ob h;refine .callH [(.ptr q0 0)] ((EI q0 t38.2)::(Ba n4 (x20.toList.map AL))::T0) _ rfl rfl rfl 30 rfl (by decide) PE ⟨rfl,rfl,trivial⟩ (.cons 0 rfl (.refl _)) (GM et44) ?_;rintro _ _ ⟨rfl,hs45⟩;refine .wH [0,4,5,6,29,30] hs45 ?_;refine .a 7 ?_;obtain⟨b46,q47,h⟩:=ob h;refine .regM [(0,(.ptr q0 0)),(4,(AB t2.1)),(5,(.ptr n4 0)),(6,(AY t29.1)),(8,(AY t44.1)),(39,(AB b46))] ((EI q0 t44.2.2)::(Ba n4 (x20.toList.map AL))::T0) ?_ ?_
     ·refine .a 3 ?_;rcases oi q47 with⟨c48,q47⟩|⟨c48,q47⟩
      ·refine .a 4 ?_;cases q47;refine .nilE ⟨rfl,rfl⟩ ?_ ?_
       ·exact⟨rfl,rfl,rfl,rfl,rfl,rfl,trivial⟩
       exact(.refl _)
      refine .a 4 ?_;cases q47;refine .nilE ⟨rfl,rfl⟩ ?_ ?_
      ·exact⟨rfl,rfl,rfl,rfl,rfl,rfl,trivial⟩
      exact(.refl _)
     rcases oi h with⟨c49,h⟩|⟨c49,h⟩
     ·refine .a 5 ?_;refine .nH [2,3] (H':=((EI q0 t44.2.2)::T0)) (.cons 0 rfl (.drop (.refl _))) ?_;refine .coeC 2 (y':=(BK ([]:List AE))) rfl EW.nil ?_;refine .rK [2,3] ?_;cases h;exact⟨[(BK ([]:List AE)),(AB false)],⟨rfl,rfl,rfl,rfl,trivial⟩,rfl,(.cons 0 rfl (.refl _))⟩
     refine .a 1 ?_;refine .sK [0,4,5,6,8] ?_;exact⟨t44.2.2.f0,t44.2.2.f1,t44.2.2.f2,t44.1,rfl,rfl,h⟩
    refine .a 1 ?_;refine .sK [0,4,5,6,8] ?_;exact⟨t38.2.f0,t38.2.f1,t38.2.f2,t29.1,rfl,rfl,h⟩
   rintro _ _ ⟨x32,x33,x34,x35,rfl,rfl,h⟩;rw[D7.eq_1]at h;obtain⟨t36,et36,h⟩:=ob h;obtain⟨t37,et37,h⟩:=ob h;refine .regAnyL rfl rfl (by rfl) (by decide+kernel) (by decide+kernel) [(.ar 1 (x20.toList.map AL)),(AY t29.1),(AY x35),(.ar 1 (t36.toList.map AL)),(.ar 1 (t37.toList.map AL))] [(0,(.ptr q0 0)),(4,(AB t2.1)),(5,(.ptr n4 0)),(6,(AY t29.1)),(8,(AY x35))] ⟨rfl,rfl,rfl,rfl,rfl,trivial⟩ rfl ?_ [(0,(.ptr q0 0)),(4,(AB t2.1)),(5,(.ptr n4 0)),(44,(.ar 1 (t37.toList.map AL)))] ⟨rfl,rfl,rfl,rfl,trivial⟩ ?_
   ·refine⟨?_,?_,?_,?_,?_,trivial⟩
    ·refine .a 1 ?_;exact .q 40
    ·refine .a 1 ?_;exact .q 41
    ·refine .a 1 ?_;exact .q 42
    ·refine .wK [41,42] ?_;refine .callS [(AY t29.1),(AY x35)] (.ar 1 (t36.toList.map AL)) 43 rfl (by decide) Ss rfl rfl rfl ⟨rfl,rfl,rfl,rfl,trivial⟩ (Mo et36) ?_;exact .q 43
    refine .wK [40,43] ?_;refine .callS [(.ar 1 (x20.toList.map AL)),(.ar 1 (t36.toList.map AL))] (.ar 1 (t37.toList.map AL)) 44 rfl (by decide) Tl rfl rfl rfl ⟨rfl,rfl,rfl,rfl,trivial⟩ (Md et37) ?_;exact .q 44
   refine .store 1 rfl rfl rfl rfl rfl rfl (.cast .here rfl) rfl (by simp[AV.size]) (by rw[BX];simp[AV.size]) rfl ?_;refine .nK [0,4,5] ?_;exact⟨kq22,Nat.lt_succ_self _,x32,x33,x34,t37,rfl,rfl,by rw[hrec21];exact h⟩
  refine .a 1 ?_;refine .eK [0,4,5] ?_;exact⟨x17,x18,x19,x20,rfl,rfl,h⟩
 rintro _ _ ⟨x5,x6,x7,x8,rfl,rfl,h⟩;rw[Gu.eq_1]at h;refine .seq_mid (fun ρ H=>∃ (x9:(Vector Int 4)),ρ=[(0,(.ptr q0 0)),(5,(.ptr n4 0))]∧H=((IB q0 x5 x6 x7)::(Ba n4 (x9.toList.map AL))::T0)∧E7 k x5 x6 x7 x9=some r) ?_ ?_
 ·refine .a 4 ?_;rcases oi h with⟨c15,h⟩|⟨c15,h⟩
  ·refine .a 3 ?_;obtain⟨t16,et16,h⟩:=ob h;refine .callS [(.ar 1 (x8.toList.map AL))] (.ar 1 (t16.toList.map AL)) 47 rfl (by decide) Tq rfl rfl rfl ⟨rfl,rfl,trivial⟩ (MJ et16) ?_;refine .store 1 rfl rfl rfl rfl rfl rfl (.cast .here rfl) rfl (by simp[AV.size]) (by rw[BX];simp[AV.size]) rfl ?_;refine .nK [0,5] ?_;exact⟨t16,rfl,rfl,h⟩
  refine .a 1 ?_;refine .sK [0,5] ?_;exact⟨x8,rfl,rfl,h⟩
 rintro _ _ ⟨x9,rfl,rfl,h⟩;rw[E7.eq_1]at h;refine .seq ?_;obtain⟨t11,et11,h⟩:=ob h;rcases oi h with⟨c13,h⟩|⟨c13,h⟩
 ·obtain⟨t14,et14,h⟩:=ob h;refine .regEff (by rfl) (by decide+kernel) (fun (σ:Nat→Nat)=>([(.ar 1 (x9.toList.map AL)),(AJ (AE.mk (1:Int) x9)),(BK ([(AE.mk (1:Int) x9)]:List AE)),(.ptr q0 0),(AB t11.1),(AB t11.1),(.ar 1 (x9.toList.map AL)),(AB t14),(AB (!t14)),(AB (!t14)),(BK ([(AE.mk (1:Int) x9)]:List AE)),(AB (!t14))]:List AV)) (fun (L:Nat→Bool) (σ:Nat→Nat)=>((Ba n4 (x9.toList.map AL))::(bif L 4 then((EI q0 t11.2)::T0)else((IB q0 x5 x6 x7)::T0)):AN)) [(0,(.ptr q0 0)),(5,(.ptr n4 0))] ⟨rfl,rfl,trivial⟩ (fun _=>rfl) (fun σ=>(.cons 1 rfl (.cons 0 rfl (.refl _)))) ⟨?_,?_,?_,?_,?_,?_,?_,?_,?_,?_,?_,?_,trivial⟩ (fun σ=>[(2,(BK ([(AE.mk (1:Int) x9)]:List AE))),(3,(AB (!t14)))]) (fun σ=>((Ba n4 (x9.toList.map AL))::(EI q0 t11.2)::T0)) (fun σ=>⟨rfl,rfl,trivial⟩) (fun σ=>.refl _) (fun σ=>?_)
  ·refine .calm (fun _ _=>rfl) fun L σ hc hi hd=>?_;refine .a 1 ?_;exact .nE (d:=48) rfl ⟨⟨48,_,rfl,rfl,rfl⟩,.refl _⟩
  ·refine .calm (fun _ _=>rfl) fun L σ hc hi hd=>?_;refine .wK [48] ?_;refine .c (x:=(Ff (1:Int) (x9.toList.map AL))) (.build (qs:=[(0,(AA (1:Int))),(1,(.ar 1 (x9.toList.map AL)))]) rfl ⟨rfl,rfl,rfl,rfl,rfl,rfl,trivial⟩ Tryz.underlying122 rfl Aw Au (.cons rfl rfl rfl rfl (.cast (.fld0 .here) rfl) (.cons rfl rfl (Az _ _) (Az _ _) (.cast (.fldS (.fld0 .here)) rfl) .nil)) rfl) ?_;exact .nE (d:=49) rfl ⟨⟨49,_,rfl,rfl,rfl⟩,.refl _⟩
  ·refine .calm (fun _ _=>rfl) fun L σ hc hi hd=>?_;refine .wK [49] ?_;refine .lit (Z:=(Ff (0:Int) ((Vector.replicate 4 (0:Int)).toList.map AL))) (xs:=(([(AE.mk (1:Int) x9)]:List AE).map AJ)) (qs:=[(0,(AJ (AE.mk (1:Int) x9)))]) rfl 50 rfl (by decide) rfl ⟨rfl,rfl,rfl,trivial⟩ Tryz.underlying75 BC Aw Au rfl (by decide) (Aj (z:=5) [(AJ (AE.mk (1:Int) x9))] rfl ⟨⟨rfl,rfl⟩,trivial⟩) rfl fun n10=>?_;refine .freezeS 0 [(50,(BK ([(AE.mk (1:Int) x9)]:List AE)))] rfl ⟨Ad rfl,trivial⟩ ?_;exact .nE (d:=50) rfl ⟨⟨50,_,rfl,rfl,rfl⟩,.refl _⟩
  ·refine .calm (fun _ _=>rfl) fun L σ hc hi hd=>?_;have m4:L 4=false:=hc.neg (i:=3) (j:=4) rfl (by rfl) hi;refine .heq (H':=((Ba n4 (x9.toList.map AL))::(IB q0 x5 x6 x7)::T0)) (by first|rfl|simp only[m4,cond_true,cond_false]) ?_;refine .a 1 ?_;exact .nE (d:=51) rfl ⟨⟨51,_,rfl,rfl,rfl⟩,.of_eq (by first|rfl|simp only[m4,cond_true,cond_false]) (.refl _)⟩
  ·intro L σ hc hi hd;refine .heq (H':=((Ba n4 (x9.toList.map AL))::(IB q0 x5 x6 x7)::T0)) (by first|rfl|simp only[hi,cond_true,cond_false]) ?_;refine .wK [51] ?_;refine .callH [(.ptr q0 0),(AY (93:Int))] ((EI q0 (Aa.mk x5 x6 x7))::(Ba n4 (x9.toList.map AL))::T0) _ rfl rfl rfl 52 rfl (by decide) GD ⟨rfl,rfl,rfl,rfl,trivial⟩ (.cons 1 rfl (.refl _)) (BQ et11) ?_;rintro _ _ ⟨rfl,hs12⟩;refine .wH [51,52] hs12 ?_;have a4:A3 L 4 4=true:=rfl;exact .nE (d:=52) rfl ⟨σ,(fun _ _=>rfl),(fun d' hd'=>⟨_,rfl,by cases hd';rfl⟩),.of_eq (B:=((Ba n4 (x9.toList.map AL))::(EI q0 t11.2)::T0)) (by simp only[a4,cond_true,cond_false]) (.cons 1 rfl (.cons 0 rfl (.refl _)))⟩
  ·refine .calm (fun _ _=>rfl) fun L σ hc hi hd=>?_;refine .a 1 ?_;exact .nE (d:=53) rfl ⟨⟨53,_,rfl,rfl,rfl⟩,.refl _⟩
  ·refine .calm (fun _ _=>rfl) fun L σ hc hi hd=>?_;refine .a 1 ?_;exact .nE (d:=54) rfl ⟨⟨54,_,rfl,rfl,rfl⟩,.refl _⟩
  ·refine .calm (fun _ _=>rfl) fun L σ hc hi hd=>?_;refine .wK [53,54] ?_;refine .callG 5 true 53 [(.ar 1 (x9.toList.map AL))] (AB t14) 55 rfl (by decide) S5 rfl rfl (bD c13) rfl rfl ⟨rfl,rfl,trivial⟩ (KM et14) ?_;exact .nE (d:=55) rfl ⟨⟨55,_,rfl,rfl,rfl⟩,.refl _⟩
  ·refine .calm (fun _ _=>rfl) fun L σ hc hi hd=>?_;refine .a 1 ?_;exact .nE (d:=56) rfl ⟨⟨56,_,rfl,rfl,rfl⟩,.refl _⟩
  ·refine .calm (fun _ _=>rfl) fun L σ hc hi hd=>?_;refine .a 1 ?_;exact .nE (d:=57) rfl ⟨⟨57,_,rfl,rfl,rfl⟩,.refl _⟩
  ·refine .calm (fun _ _=>rfl) fun L σ hc hi hd=>?_;refine .a 1 ?_;exact .nE (d:=2) rfl ⟨⟨2,_,rfl,rfl,rfl⟩,.refl _⟩
  ·refine .calm (fun _ _=>rfl) fun L σ hc hi hd=>?_;refine .a 1 ?_;exact .nE (d:=3) rfl ⟨⟨3,_,rfl,rfl,rfl⟩,.refl _⟩
  refine .nH [2,3] (H':=((EI q0 t11.2)::T0)) (.cons 1 rfl (.drop (.refl _))) ?_;refine .rK [2,3] ?_;cases h;exact⟨[(BK ([(AE.mk (1:Int) x9)]:List AE)),(AB (!t14))],⟨rfl,rfl,rfl,rfl,trivial⟩,rfl,(.cons 0 rfl (.refl _))⟩
 refine .regEff (by rfl) (by decide+kernel) (fun (σ:Nat→Nat)=>([(.ar 1 (x9.toList.map AL)),(AJ (AE.mk (1:Int) x9)),(BK ([(AE.mk (1:Int) x9)]:List AE)),(.ptr q0 0),(AB t11.1),(AB t11.1),(.fl undef),(.fl undef),(.fl undef),(AB false),(BK ([(AE.mk (1:Int) x9)]:List AE)),(AB false)]:List AV)) (fun (L:Nat→Bool) (σ:Nat→Nat)=>((Ba n4 (x9.toList.map AL))::(bif L 4 then((EI q0 t11.2)::T0)else((IB q0 x5 x6 x7)::T0)):AN)) [(0,(.ptr q0 0)),(5,(.ptr n4 0))] ⟨rfl,rfl,trivial⟩ (fun _=>rfl) (fun σ=>(.cons 1 rfl (.cons 0 rfl (.refl _)))) ⟨?_,?_,?_,?_,?_,?_,?_,?_,?_,?_,?_,?_,trivial⟩ (fun σ=>[(2,(BK ([(AE.mk (1:Int) x9)]:List AE))),(3,(AB false))]) (fun σ=>((Ba n4 (x9.toList.map AL))::(EI q0 t11.2)::T0)) (fun σ=>⟨rfl,rfl,trivial⟩) (fun σ=>.refl _) (fun σ=>?_)
 ·refine .calm (fun _ _=>rfl) fun L σ hc hi hd=>?_;refine .a 1 ?_;exact .nE (d:=48) rfl ⟨⟨48,_,rfl,rfl,rfl⟩,.refl _⟩
 ·refine .calm (fun _ _=>rfl) fun L σ hc hi hd=>?_;refine .wK [48] ?_;refine .c (x:=(Ff (1:Int) (x9.toList.map AL))) (.build (qs:=[(0,(AA (1:Int))),(1,(.ar 1 (x9.toList.map AL)))]) rfl ⟨rfl,rfl,rfl,rfl,rfl,rfl,trivial⟩ Tryz.underlying122 rfl Aw Au (.cons rfl rfl rfl rfl (.cast (.fld0 .here) rfl) (.cons rfl rfl (Az _ _) (Az _ _) (.cast (.fldS (.fld0 .here)) rfl) .nil)) rfl) ?_;exact .nE (d:=49) rfl ⟨⟨49,_,rfl,rfl,rfl⟩,.refl _⟩
 ·refine .calm (fun _ _=>rfl) fun L σ hc hi hd=>?_;refine .wK [49] ?_;refine .lit (Z:=(Ff (0:Int) ((Vector.replicate 4 (0:Int)).toList.map AL))) (xs:=(([(AE.mk (1:Int) x9)]:List AE).map AJ)) (qs:=[(0,(AJ (AE.mk (1:Int) x9)))]) rfl 50 rfl (by decide) rfl ⟨rfl,rfl,rfl,trivial⟩ Tryz.underlying75 BC Aw Au rfl (by decide) (Aj (z:=5) [(AJ (AE.mk (1:Int) x9))] rfl ⟨⟨rfl,rfl⟩,trivial⟩) rfl fun n10=>?_;refine .freezeS 0 [(50,(BK ([(AE.mk (1:Int) x9)]:List AE)))] rfl ⟨Ad rfl,trivial⟩ ?_;exact .nE (d:=50) rfl ⟨⟨50,_,rfl,rfl,rfl⟩,.refl _⟩
 ·refine .calm (fun _ _=>rfl) fun L σ hc hi hd=>?_;have m4:L 4=false:=hc.neg (i:=3) (j:=4) rfl (by rfl) hi;refine .heq (H':=((Ba n4 (x9.toList.map AL))::(IB q0 x5 x6 x7)::T0)) (by first|rfl|simp only[m4,cond_true,cond_false]) ?_;refine .a 1 ?_;exact .nE (d:=51) rfl ⟨⟨51,_,rfl,rfl,rfl⟩,.of_eq (by first|rfl|simp only[m4,cond_true,cond_false]) (.refl _)⟩
 ·intro L σ hc hi hd;refine .heq (H':=((Ba n4 (x9.toList.map AL))::(IB q0 x5 x6 x7)::T0)) (by first|rfl|simp only[hi,cond_true,cond_false]) ?_;refine .wK [51] ?_;refine .callH [(.ptr q0 0),(AY (93:Int))] ((EI q0 (Aa.mk x5 x6 x7))::(Ba n4 (x9.toList.map AL))::T0) _ rfl rfl rfl 52 rfl (by decide) GD ⟨rfl,rfl,rfl,rfl,trivial⟩ (.cons 1 rfl (.refl _)) (BQ et11) ?_;rintro _ _ ⟨rfl,hs12⟩;refine .wH [51,52] hs12 ?_;have a4:A3 L 4 4=true:=rfl;exact .nE (d:=52) rfl ⟨σ,(fun _ _=>rfl),(fun d' hd'=>⟨_,rfl,by cases hd';rfl⟩),.of_eq (B:=((Ba n4 (x9.toList.map AL))::(EI q0 t11.2)::T0)) (by simp only[a4,cond_true,cond_false]) (.cons 1 rfl (.cons 0 rfl (.refl _)))⟩
 ·refine .calm (fun _ _=>rfl) fun L σ hc hi hd=>?_;refine .a 1 ?_;exact .nE (d:=53) rfl ⟨⟨53,_,rfl,rfl,rfl⟩,.refl _⟩
 ·refine .calm (fun _ _=>rfl) fun L σ hc hi hd=>?_;refine .a 1 ?_;exact .nE (d:=54) rfl ⟨⟨54,_,rfl,rfl,rfl⟩,.refl _⟩
 ·refine .calm (fun _ _=>rfl) fun L σ hc hi hd=>?_;refine .a 1 ?_;exact .nE (d:=55) rfl ⟨⟨55,_,rfl,rfl,rfl⟩,.refl _⟩
 ·refine .calm (fun _ _=>rfl) fun L σ hc hi hd=>?_;refine .a 1 ?_;exact .nE (d:=56) rfl ⟨⟨56,_,rfl,rfl,rfl⟩,.refl _⟩
 ·refine .calm (fun _ _=>rfl) fun L σ hc hi hd=>?_;refine .a 1 ?_;exact .nE (d:=57) rfl ⟨⟨57,_,rfl,rfl,rfl⟩,.refl _⟩
 ·refine .calm (fun _ _=>rfl) fun L σ hc hi hd=>?_;refine .a 1 ?_;exact .nE (d:=2) rfl ⟨⟨2,_,rfl,rfl,rfl⟩,.refl _⟩
 ·refine .calm (fun _ _=>rfl) fun L σ hc hi hd=>?_;refine .a 1 ?_;exact .nE (d:=3) rfl ⟨⟨3,_,rfl,rfl,rfl⟩,.refl _⟩
 refine .nH [2,3] (H':=((EI q0 t11.2)::T0)) (.cons 1 rfl (.drop (.refl _))) ?_;refine .rK [2,3] ?_;cases h;exact⟨[(BK ([(AE.mk (1:Int) x9)]:List AE)),(AB false)],⟨rfl,rfl,rfl,rfl,trivial⟩,rfl,(.cons 0 rfl (.refl _))⟩
end Go.Avl.TC
namespace Go.Avl.TC
open Go Go.RowKit Go.Proofs Go.Avl
set_option linter.unusedVariables false
set_option maxRecDepth 100000
set_option maxHeartbeats 4000000
attribute [local irreducible] AW AO AQ AM Al AG
def Gn (k:Nat) (x4:(Vector Int 4)):Option (Vector Int 4):=
 some (x4)
def Cx (k:Nat) (p0:(List Int)):Nat→(Vector Int 4)→Int→Option (Vector Int 4)
 | 0,_,_=>none
 | j+1,x5,x6=>
   if x6<(p0.length:Int)then if 0≤x6∧x6<(p0.length:Int)then if 0≤(IntKind.u8.wrap ((AC p0 x6).tdiv (64:Int)))∧(IntKind.u8.wrap ((AC p0 x6).tdiv (64:Int)))<(4:Int)then if 0≤((AC p0 x6).tmod (64:Int))then if 0≤(IntKind.u8.wrap ((AC p0 x6).tdiv (64:Int)))∧(IntKind.u8.wrap ((AC p0 x6).tdiv (64:Int)))<(4:Int)then(Cx k p0 j) (BG x5 (IntKind.u8.wrap ((AC p0 x6).tdiv (64:Int))) (bits .or .u64 (Ag x5 (IntKind.u8.wrap ((AC p0 x6).tdiv (64:Int)))) (IntKind.u64.wrap ((1:Int)*2 ^ (min ((AC p0 x6).tmod (64:Int)).toNat IntKind.u64.bits))))) (AH (x6+(1:Int)))
   else none
   else none
   else none
   else none
   else Gn k x5
def QV (k:Nat) (p0:(List Int)):Option (Vector Int 4):=
 Cx k p0 k (Vector.replicate 4 (0:Int)) (0:Int)
theorem Mr {k:Nat} {p0:(List Int)} {r:(Vector Int 4)} (h:QV k p0=some r):AM Tryz.prog 128 [(.fz 1 (p0.map AY))] (Cc r):=by
 rw[QV.eq_1]at h;refine AM.intro (res:=[.cell 2 120]) Tryz.func128 rfl rfl rfl (Nat.le_of_ble_eq_true rfl) ?_;refine .sr ?_;refine .alloc rfl 2 rfl (by decide) rfl Bq BP fun n2=>?_;refine .a 3 ?_;refine .alloc rfl 3 rfl (by decide) rfl Bq BP fun n3=>?_;refine .nS [0,2,3] [1,0] ?_;refine .seq_mid (fun ρ H=>∃ (x4:(Vector Int 4)),ρ=[(2,(.ptr n2 0)),(3,(.ptr n3 0))]∧H=[(Ba n2 ((Vector.replicate 4 (0:Int)).toList.map AL)),(Ba n3 (x4.toList.map AL))]∧Gn k x4=some r) ?_ ?_
 ·refine .a 7 ?_;refine .wK [2,3,6,7,8] ?_;refine .loop (fun kq ρ H=>∃ (x5:(Vector Int 4)) (x6:Int),ρ=[(2,(.ptr n2 0)),(3,(.ptr n3 0)),(6,(.fz 1 (p0.map AY))),(7,(AA (p0.length:Int))),(8,(AA x6))]∧H=[(Ba n2 ((Vector.replicate 4 (0:Int)).toList.map AL)),(Ba n3 (x5.toList.map AL))]∧Cx k p0 kq x5 x6=some r) k ⟨(Vector.replicate 4 (0:Int)),(0:Int),rfl,rfl,h⟩ ?_;rintro kq8 _ _ ⟨x5,x6,rfl,rfl,h⟩
  cases kq8 with
  | zero=>rw[Cx.eq_1]at h;cases h
  | succ kq8=>
  rw[Cx.eq_2]at h;generalize hrec7:Cx k p0 kq8=rec7 at h;refine .a 5 ?_;rcases oi h with⟨c9,h⟩|⟨c9,h⟩
  ·refine .a 6 ?_;obtain⟨g10,h⟩:=AD h;refine .a 6 ?_;refine .c (x:=AY (IntKind.u8.wrap ((AC p0 x6).tdiv (64:Int)))) (.quo rfl rfl rfl (by decide)) ?_;obtain⟨g11,h⟩:=AD h;refine .c (.idxP rfl rfl rfl g11 Tryz.underlying120 BE) ?_;refine .c (.load 1 rfl rfl rfl (.cast (.vidx (IntKind.u8.wrap ((AC p0 x6).tdiv (64:Int))) g11.1 g11.2 .here) (by omega)) Ec BE) ?_;refine .mv rfl rfl ?_;refine .c (x:=AY ((AC p0 x6).tmod (64:Int))) (.rem rfl rfl rfl (by decide)) ?_;obtain⟨g12,h⟩:=AD h;refine .c (x:=AL (IntKind.u64.wrap ((1:Int)*2 ^ (min ((AC p0 x6).tmod (64:Int)).toNat IntKind.u64.bits)))) (.shl rfl rfl rfl g12) ?_;refine .a 1 ?_;obtain⟨g13,h⟩:=AD h;refine .c (.idxP rfl rfl rfl g13 Tryz.underlying120 BE) ?_;refine .store 1 rfl rfl rfl rfl rfl rfl (.cast (.vidx (IntKind.u8.wrap ((AC p0 x6).tdiv (64:Int))) (bits .or .u64 (Ag x5 (IntKind.u8.wrap ((AC p0 x6).tdiv (64:Int)))) (IntKind.u64.wrap ((1:Int)*2 ^ (min ((AC p0 x6).tmod (64:Int)).toNat IntKind.u64.bits)))) g13.1 g13.2 .here) (by omega)) rfl rfl BE rfl ?_;refine .a 4 ?_;refine .nK [2,3,6,7,8] ?_;exact⟨kq8,Nat.lt_succ_self _,(BG x5 (IntKind.u8.wrap ((AC p0 x6).tdiv (64:Int))) (bits .or .u64 (Ag x5 (IntKind.u8.wrap ((AC p0 x6).tdiv (64:Int)))) (IntKind.u64.wrap ((1:Int)*2 ^ (min ((AC p0 x6).tmod (64:Int)).toNat IntKind.u64.bits))))),(AH (x6+(1:Int))),rfl,rfl,by rw[hrec7];exact h⟩
  refine .a 1 ?_;refine .eK [2,3] ?_;exact⟨x5,rfl,rfl,h⟩
 rintro _ _ ⟨x4,rfl,rfl,h⟩;rw[Gn.eq_1]at h;refine .a 3 ?_;refine .store 0 rfl rfl rfl rfl rfl rfl (.cast .here rfl) rfl (by simp[AV.size]) (by rw[BX];simp[AV.size]) rfl ?_;refine .nS [2] [0] ?_;refine .rK [2] ?_;have hr:=Option.some.inj h;subst hr;exact⟨[(.ar 1 (x4.toList.map AL))],⟨⟨_,0,rfl,rfl,Ft,(by rw[BX];simp[AV.size])⟩,trivial⟩,rfl⟩
def Gq (k:Nat) (x4:(List AE)) (b5:Bool) (x6:ByteArray) (x7:Int) (x8:Int):Option ((List AE)×Bool×Aa):=
 some (x4,b5,(Aa.mk x6 x7 x8))
def Bu (k:Nat) (self84:(Aa→Option ((List AE)×Bool×Aa))):Nat→ByteArray→Int→Int→(List AE)→Bool→Option ((List AE)×Bool×Aa)
 | 0,_,_,_,_,_=>none
 | j+1,x9,x10,x11,x12,b13=>
   Option.bind (α:=ByteArray×Int×Int×Bool) (if b13=true then(Hw k (Aa.mk x9 x10 x11) (124:Int)).bind fun t22=>
   some (t22.2.f0,t22.2.f1,t22.2.f2,t22.1)
   else some (x9,x10,x11,false)) fun (x16,x17,x18,b19)=>
   if b19=true then(self84 (Aa.mk x16 x17 x18)).bind fun t25=>
   (My k (3:Int) [x12,t25.1]).bind fun t28=>
   (Bu k self84 j) t25.2.2.f0 t25.2.2.f1 t25.2.2.f2 t28 t25.2.1
   else Gq k x12 b13 x16 x17 x18
def Gb (k:Nat) (x4:(List AE)) (b5:Bool) (x6:ByteArray) (x7:Int) (x8:Int):Option ((List AE)×Bool×Aa):=
 some (x4,b5,(Aa.mk x6 x7 x8))
def Bv (k:Nat) (self112:(Aa→Option ((List AE)×Bool×Aa))):Nat→ByteArray→Int→Int→(List AE)→Bool→Option ((List AE)×Bool×Aa)
 | 0,_,_,_,_,_=>none
 | j+1,x9,x10,x11,x12,b13=>
   Option.bind (α:=Bool) (if b13=true then(I3 k (Aa.mk x9 x10 x11) (ByteArray.mk #[124,41])).bind fun t19=>
   some (!t19)
   else some (false)) fun b16=>
   if b16=true then(self112 (Aa.mk x9 x10 x11)).bind fun t22=>
   (My k (2:Int) [x12,t22.1]).bind fun t25=>
   (Bv k self112 j) t22.2.2.f0 t22.2.2.f1 t22.2.2.f2 t25 t22.2.1
   else Gb k x12 b13 x9 x10 x11
def Ik (k:Nat) (x4:ByteArray) (x5:Int) (x6:Int):Option ((List AE)×Bool×Aa):=
 some ([],false,(Aa.mk x4 x5 x6))
def Bl (k:Nat) (t2:((List AE)×Bool×Aa)):Nat→ByteArray→Int→Int→(List AE)→Option ((List AE)×Bool×Aa)
 | 0,_,_,_,_=>none
 | j+1,x7,x8,x9,x10=>
   if t2.2.1=true then(Hw k (Aa.mk x7 x8 x9) (42:Int)).bind fun t14=>
   if t14.1=true then(My k (4:Int) [x10]).bind fun t18=>
   (Bl k t2 j) t14.2.f0 t14.2.f1 t14.2.f2 t18
   else(Hw k t14.2 (43:Int)).bind fun t19=>
   if t19.1=true then(My k (5:Int) [x10]).bind fun t23=>
   (Bl k t2 j) t19.2.f0 t19.2.f1 t19.2.f2 t23
   else(Hw k t19.2 (63:Int)).bind fun t24=>
   if t24.1=true then(My k (6:Int) [x10]).bind fun t28=>
   (Bl k t2 j) t24.2.f0 t24.2.f1 t24.2.f2 t28
   else some (x10,true,t24.2)
   else Ik k x7 x8 x9
mutual
def Ce (k:Nat):Nat→Aa→Option ((List AE)×Bool×Aa)
 | 0,_=>none
 | j+1,p0=>
   ((C3 k j) p0).bind fun t2=>
   Bu k (C3 k j) k t2.2.2.f0 t2.2.2.f1 t2.2.2.f2 t2.1 t2.2.1
def C3 (k:Nat):Nat→Aa→Option ((List AE)×Bool×Aa)
 | 0,_=>none
 | j+1,p0=>
   ((DF k j) p0).bind fun t2=>
   Bv k (DF k j) k t2.2.2.f0 t2.2.2.f1 t2.2.2.f2 t2.1 t2.2.1
def DF (k:Nat):Nat→Aa→Option ((List AE)×Bool×Aa)
 | 0,_=>none
 | j+1,p0=>
   ((Dm k j) p0).bind fun t2=>
   Bl k t2 k t2.2.2.f0 t2.2.2.f1 t2.2.2.f2 t2.1
def Dm (k:Nat):Nat→Aa→Option ((List AE)×Bool×Aa)
 | 0,_=>none
 | j+1,p0=>
   (I3 k p0 (ByteArray.mk #[124,41,42,43,63,93,47,34])).bind fun t2=>
   if t2=true then some ([],false,p0)
   else(Hw k p0 (46:Int)).bind fun t5=>
   if t5.1=true then(MP k).bind fun t8=>
   some ([(AE.mk (1:Int) t8)],true,t5.2)
   else(Hw k t5.2 (126:Int)).bind fun t10=>
   if t10.1=true then some ([(AE.mk (0:Int) (Vector.replicate 4 (0:Int)))],true,t10.2)
   else(Hw k t10.2 (40:Int)).bind fun t14=>
   if t14.1=true then((Ce k j) (Aa.mk t14.2.f0 t14.2.f1 (AH (t14.2.f2+(1:Int))))).bind fun t17=>
   Option.bind (α:=Bool×ByteArray×Int×Int) (if t17.2.1=true then if(AH (t17.2.2.f2 - (1:Int)))<(99:Int)then(Hw k (Aa.mk t17.2.2.f0 t17.2.2.f1 (AH (t17.2.2.f2 - (1:Int)))) (41:Int)).bind fun t26=>
   some (t26.1,t26.2.f0,t26.2.f1,t26.2.f2)
   else some (false,t17.2.2.f0,t17.2.2.f1,(AH (t17.2.2.f2 - (1:Int))))
   else some (false,t17.2.2.f0,t17.2.2.f1,(AH (t17.2.2.f2 - (1:Int))))) fun (b19,x20,x21,x22)=>
   some (t17.1,b19,(Aa.mk x20 x21 x22))
   else(Hw k t14.2 (91:Int)).bind fun t28=>
   if t28.1=true then(NJ k t28.2).bind fun t31=>
   some (t31.1,t31.2.1,t31.2.2)
   else(JR k t28.2).bind fun t33=>
   (QV k [t33.1]).bind fun t36=>
   some ([(AE.mk (1:Int) t36)],t33.2.1,t33.2.2)
end
def Rp (k:Nat) (p0:Aa):Option ((List AE)×Bool×Aa):=Ce k k p0
theorem Oz (k:Nat):∀ j:Nat,(∀ (p0:Aa) (r:((List AE)×Bool×Aa)),Ce k j p0=some r→∀ (q0:Nat) (T0:AN),Al Tryz.prog 63 [(.ptr q0 0)] ((q0,(.mem (CN p0)))::T0) (fun x H'=>x=.tup [(.fz 5 (r.1.map AJ)),(AB r.2.1)]∧BS ((q0,(.mem (CN r.2.2)))::T0) H'))∧(∀ (p0:Aa) (r:((List AE)×Bool×Aa)),C3 k j p0=some r→∀ (q0:Nat) (T0:AN),Al Tryz.prog 84 [(.ptr q0 0)] ((q0,(.mem (CN p0)))::T0) (fun x H'=>x=.tup [(.fz 5 (r.1.map AJ)),(AB r.2.1)]∧BS ((q0,(.mem (CN r.2.2)))::T0) H'))∧(∀ (p0:Aa) (r:((List AE)×Bool×Aa)),DF k j p0=some r→∀ (q0:Nat) (T0:AN),Al Tryz.prog 112 [(.ptr q0 0)] ((q0,(.mem (CN p0)))::T0) (fun x H'=>x=.tup [(.fz 5 (r.1.map AJ)),(AB r.2.1)]∧BS ((q0,(.mem (CN r.2.2)))::T0) H'))∧(∀ (p0:Aa) (r:((List AE)×Bool×Aa)),Dm k j p0=some r→∀ (q0:Nat) (T0:AN),Al Tryz.prog 123 [(.ptr q0 0)] ((q0,(.mem (CN p0)))::T0) (fun x H'=>x=.tup [(.fz 5 (r.1.map AJ)),(AB r.2.1)]∧BS ((q0,(.mem (CN r.2.2)))::T0) H')):=by
 intro j
 induction j with
 | zero=>exact⟨(by intro p0 r h;rw[Ce.eq_1]at h;cases h),(by intro p0 r h;rw[C3.eq_1]at h;cases h),(by intro p0 r h;rw[DF.eq_1]at h;cases h),(by intro p0 r h;rw[Dm.eq_1]at h;cases h)⟩
 | succ j hself=>
 obtain⟨hself63,hself84,hself112,hself123⟩:=hself;refine⟨?_,?_,?_,?_⟩
 ·intro p0 r h q0 T0;rw[Ce.eq_2]at h;generalize hsself63:Ce k j=self63 at h hself63;generalize hsself84:C3 k j=self84 at h hself84;generalize hsself112:DF k j=self112 at h hself112;generalize hsself123:Dm k j=self123 at h hself123;refine Al.intro (res:=[.tmp 2,.tmp 3]) Tryz.func63 rfl rfl rfl (Nat.le_of_ble_eq_true rfl) ?_;refine .a 8 ?_;obtain⟨t2,et2,h⟩:=ob h;refine .callH [(.ptr q0 0)] ((q0,(.mem (CN p0)))::T0) _ rfl rfl rfl 9 rfl (by decide) UC ⟨rfl,rfl,trivial⟩ (.cons 0 rfl (.refl _)) (hself84 _ _ et2 _ _) ?_;rintro _ _ ⟨rfl,hs3⟩;refine .wH [0,8,9] hs3 ?_;refine .a 5 ?_;refine .nK [0,4,5] ?_;refine .seq_mid (fun ρ H=>∃ (x4:(List AE)) (b5:Bool) (x6:ByteArray) (x7:Int) (x8:Int),ρ=[(4,(.fz 5 (x4.map AJ))),(5,(AB b5))]∧H=((IB q0 x6 x7 x8)::T0)∧Gq k x4 b5 x6 x7 x8=some r) ?_ ?_
  ·refine .a 1 ?_;refine .wK [0,4,5] ?_;refine .loop (fun kq ρ H=>∃ (x9:ByteArray) (x10:Int) (x11:Int) (x12:(List AE)) (b13:Bool),ρ=[(0,(.ptr q0 0)),(4,(.fz 5 (x12.map AJ))),(5,(AB b13))]∧H=((IB q0 x9 x10 x11)::T0)∧Bu k self84 kq x9 x10 x11 x12 b13=some r) k ⟨t2.2.2.f0,t2.2.2.f1,t2.2.2.f2,t2.1,t2.2.1,rfl,rfl,h⟩ ?_;rintro kq15 _ _ ⟨x9,x10,x11,x12,b13,rfl,rfl,h⟩
   cases kq15 with
   | zero=>rw[Bu.eq_1]at h;cases h
   | succ kq15=>
   rw[Bu.eq_2]at h;generalize hrec14:Bu k self84 kq15=rec14 at h;refine .a 2 ?_;obtain⟨⟨x16,x17,x18,b19⟩,q20,h⟩:=ob h;refine .regM [(0,(.ptr q0 0)),(4,(.fz 5 (x12.map AJ))),(5,(AB b13)),(16,(AB b19))] ((IB q0 x16 x17 x18)::T0) ?_ ?_
   ·refine .a 2 ?_;rcases oi q20 with⟨c21,q20⟩|⟨c21,q20⟩
    ·refine .a 1 ?_;obtain⟨t22,et22,q20⟩:=ob q20;refine .unguard 1 true 13 rfl rfl (bD c21) ?_;refine .callH [(.ptr q0 0),(AY (124:Int))] ((EI q0 (Aa.mk x9 x10 x11))::T0) _ rfl rfl rfl 15 rfl (by decide) GD ⟨rfl,rfl,rfl,rfl,trivial⟩ (.cons 0 rfl (.refl _)) (BQ et22) ?_;rintro _ _ ⟨rfl,hs23⟩;refine .wH [0,4,5,12,13,14,15] hs23 ?_;refine .a 1 ?_;cases q20;refine .nilE ⟨rfl,rfl⟩ ?_ ?_
     ·exact⟨rfl,rfl,rfl,rfl,trivial⟩
     exact(.refl _)
    refine .a 3 ?_;cases q20;refine .nilE ⟨rfl,rfl⟩ ?_ ?_
    ·exact⟨rfl,rfl,rfl,rfl,trivial⟩
    exact(.refl _)
   rcases oi h with⟨c24,h⟩|⟨c24,h⟩
   ·refine .a 10 ?_;obtain⟨t25,et25,h⟩:=ob h;refine .callH [(.ptr q0 0)] ((EI q0 (Aa.mk x16 x17 x18))::T0) _ rfl rfl rfl 19 rfl (by decide) UC ⟨rfl,rfl,trivial⟩ (.cons 0 rfl (.refl _)) (hself84 _ _ et25 _ _) ?_;rintro _ _ ⟨rfl,hs26⟩;refine .wH [0,4,18,19] hs26 ?_;refine .a 9 ?_;refine .lit (Z:=(.fl (.slice none 0 0))) (xs:=(([x12,t25.1]:List (List AE)).map EZ)) (qs:=[(0,(.fz 5 (x12.map AJ))),(1,(BK t25.1))]) rfl 24 rfl (by decide) rfl ⟨rfl,rfl,rfl,rfl,rfl,rfl,trivial⟩ Tryz.underlying164 KG LH II rfl (by decide) (Aj (z:=1) [(.fz 5 (x12.map AJ)),(BK t25.1)] rfl ⟨⟨rfl,rfl⟩,⟨rfl,rfl⟩,trivial⟩) rfl fun n27=>?_;obtain⟨t28,et28,h⟩:=ob h;refine .freezeS 0 [(24,(.fz 1 (([x12,t25.1]:List (List AE)).map EZ)))] rfl ⟨Ad rfl,trivial⟩ ?_;refine .callS [(AA (3:Int)),(.fz 1 (([x12,t25.1]:List (List AE)).map EZ))] (.fz 5 (t28.map AJ)) 25 rfl (by decide) OQ rfl rfl rfl ⟨rfl,rfl,rfl,rfl,trivial⟩ (Eb et28) ?_;refine .a 1 ?_;refine .nK [0,4,5] ?_;exact⟨kq15,Nat.lt_succ_self _,t25.2.2.f0,t25.2.2.f1,t25.2.2.f2,t28,t25.2.1,rfl,rfl,by rw[hrec14];exact h⟩
   refine .a 1 ?_;refine .eK [4,5] ?_;exact⟨x12,b13,x16,x17,x18,rfl,rfl,h⟩
  rintro _ _ ⟨x4,b5,x6,x7,x8,rfl,rfl,h⟩;rw[Gq.eq_1]at h;refine .a 6 ?_;refine .nK [2,3] ?_;refine .rK [2,3] ?_;have hr:=Option.some.inj h;subst hr;exact⟨[(.fz 5 (x4.map AJ)),(AB b5)],⟨rfl,rfl,rfl,rfl,trivial⟩,rfl,(.cons 0 rfl (.refl _))⟩
 ·intro p0 r h q0 T0;rw[C3.eq_2]at h;generalize hsself63:Ce k j=self63 at h hself63;generalize hsself84:C3 k j=self84 at h hself84;generalize hsself112:DF k j=self112 at h hself112;generalize hsself123:Dm k j=self123 at h hself123;refine Al.intro (res:=[.tmp 2,.tmp 3]) Tryz.func84 rfl rfl rfl (Nat.le_of_ble_eq_true rfl) ?_;refine .a 8 ?_;obtain⟨t2,et2,h⟩:=ob h;refine .callH [(.ptr q0 0)] ((q0,(.mem (CN p0)))::T0) _ rfl rfl rfl 9 rfl (by decide) RD ⟨rfl,rfl,trivial⟩ (.cons 0 rfl (.refl _)) (hself112 _ _ et2 _ _) ?_;rintro _ _ ⟨rfl,hs3⟩;refine .wH [0,8,9] hs3 ?_;refine .a 5 ?_;refine .nK [0,4,5] ?_;refine .seq_mid (fun ρ H=>∃ (x4:(List AE)) (b5:Bool) (x6:ByteArray) (x7:Int) (x8:Int),ρ=[(4,(.fz 5 (x4.map AJ))),(5,(AB b5))]∧H=((IB q0 x6 x7 x8)::T0)∧Gb k x4 b5 x6 x7 x8=some r) ?_ ?_
  ·refine .a 1 ?_;refine .wK [0,4,5] ?_;refine .loop (fun kq ρ H=>∃ (x9:ByteArray) (x10:Int) (x11:Int) (x12:(List AE)) (b13:Bool),ρ=[(0,(.ptr q0 0)),(4,(.fz 5 (x12.map AJ))),(5,(AB b13))]∧H=((IB q0 x9 x10 x11)::T0)∧Bv k self112 kq x9 x10 x11 x12 b13=some r) k ⟨t2.2.2.f0,t2.2.2.f1,t2.2.2.f2,t2.1,t2.2.1,rfl,rfl,h⟩ ?_;rintro kq15 _ _ ⟨x9,x10,x11,x12,b13,rfl,rfl,h⟩
   cases kq15 with
   | zero=>rw[Bv.eq_1]at h;cases h
   | succ kq15=>
   rw[Bv.eq_2]at h;generalize hrec14:Bv k self112 kq15=rec14 at h;refine .a 2 ?_;obtain⟨b16,q17,h⟩:=ob h;refine .regM [(0,(.ptr q0 0)),(4,(.fz 5 (x12.map AJ))),(5,(AB b13)),(17,(AB b16))] ((IB q0 x9 x10 x11)::T0) ?_ ?_
   ·refine .a 2 ?_;rcases oi q17 with⟨c18,q17⟩|⟨c18,q17⟩
    ·refine .a 1 ?_;obtain⟨t19,et19,q17⟩:=ob q17;refine .unguard 1 true 13 rfl rfl (bD c18) ?_;refine .callH [(.ptr q0 0),(AI (ByteArray.mk #[124,41]))] ((EI q0 (Aa.mk x9 x10 x11))::T0) _ rfl rfl rfl 15 rfl (by decide) J5 ⟨rfl,rfl,rfl,rfl,trivial⟩ (.cons 0 rfl (.refl _)) (D2 et19) ?_;rintro _ _ ⟨rfl,hs20⟩;refine .wH [0,4,5,12,13,14,15] hs20 ?_;refine .a 2 ?_;cases q17;refine .nilE ⟨rfl,rfl⟩ ?_ ?_
     ·exact⟨rfl,rfl,rfl,rfl,trivial⟩
     exact(.refl _)
    refine .a 4 ?_;cases q17;refine .nilE ⟨rfl,rfl⟩ ?_ ?_
    ·exact⟨rfl,rfl,rfl,rfl,trivial⟩
    exact(.refl _)
   rcases oi h with⟨c21,h⟩|⟨c21,h⟩
   ·refine .a 10 ?_;obtain⟨t22,et22,h⟩:=ob h;refine .callH [(.ptr q0 0)] ((EI q0 (Aa.mk x9 x10 x11))::T0) _ rfl rfl rfl 20 rfl (by decide) RD ⟨rfl,rfl,trivial⟩ (.cons 0 rfl (.refl _)) (hself112 _ _ et22 _ _) ?_;rintro _ _ ⟨rfl,hs23⟩;refine .wH [0,4,19,20] hs23 ?_;refine .a 9 ?_;refine .lit (Z:=(.fl (.slice none 0 0))) (xs:=(([x12,t22.1]:List (List AE)).map EZ)) (qs:=[(0,(.fz 5 (x12.map AJ))),(1,(BK t22.1))]) rfl 25 rfl (by decide) rfl ⟨rfl,rfl,rfl,rfl,rfl,rfl,trivial⟩ Tryz.underlying164 KG LH II rfl (by decide) (Aj (z:=1) [(.fz 5 (x12.map AJ)),(BK t22.1)] rfl ⟨⟨rfl,rfl⟩,⟨rfl,rfl⟩,trivial⟩) rfl fun n24=>?_;obtain⟨t25,et25,h⟩:=ob h;refine .freezeS 0 [(25,(.fz 1 (([x12,t22.1]:List (List AE)).map EZ)))] rfl ⟨Ad rfl,trivial⟩ ?_;refine .callS [(AA (2:Int)),(.fz 1 (([x12,t22.1]:List (List AE)).map EZ))] (.fz 5 (t25.map AJ)) 26 rfl (by decide) OQ rfl rfl rfl ⟨rfl,rfl,rfl,rfl,trivial⟩ (Eb et25) ?_;refine .a 1 ?_;refine .nK [0,4,5] ?_;exact⟨kq15,Nat.lt_succ_self _,t22.2.2.f0,t22.2.2.f1,t22.2.2.f2,t25,t22.2.1,rfl,rfl,by rw[hrec14];exact h⟩
   refine .a 1 ?_;refine .eK [4,5] ?_;exact⟨x12,b13,x9,x10,x11,rfl,rfl,h⟩
  rintro _ _ ⟨x4,b5,x6,x7,x8,rfl,rfl,h⟩;rw[Gb.eq_1]at h;refine .a 6 ?_;refine .nK [2,3] ?_;refine .rK [2,3] ?_;have hr:=Option.some.inj h;subst hr;exact⟨[(.fz 5 (x4.map AJ)),(AB b5)],⟨rfl,rfl,rfl,rfl,trivial⟩,rfl,(.cons 0 rfl (.refl _))⟩
 ·intro p0 r h q0 T0;rw[DF.eq_2]at h;generalize hsself63:Ce k j=self63 at h hself63;generalize hsself84:C3 k j=self84 at h hself84;generalize hsself112:DF k j=self112 at h hself112;generalize hsself123:Dm k j=self123 at h hself123;refine Al.intro (res:=[.tmp 2,.tmp 3]) Tryz.func112 rfl rfl rfl (Nat.le_of_ble_eq_true rfl) ?_;refine .a 8 ?_;obtain⟨t2,et2,h⟩:=ob h;refine .callH [(.ptr q0 0)] ((q0,(.mem (CN p0)))::T0) _ rfl rfl rfl 8 rfl (by decide) TF ⟨rfl,rfl,trivial⟩ (.cons 0 rfl (.refl _)) (hself123 _ _ et2 _ _) ?_;rintro _ _ ⟨rfl,hs3⟩;refine .wH [0,7,8] hs3 ?_;refine .a 5 ?_;refine .nK [0,4,5] ?_;refine .seq_mid (fun ρ H=>∃ (x4:ByteArray) (x5:Int) (x6:Int),ρ=[]∧H=((IB q0 x4 x5 x6)::T0)∧Ik k x4 x5 x6=some r) ?_ ?_
  ·refine .a 1 ?_;refine .wK [0,4,5] ?_;refine .loop (fun kq ρ H=>∃ (x7:ByteArray) (x8:Int) (x9:Int) (x10:(List AE)),ρ=[(0,(.ptr q0 0)),(4,(.fz 5 (x10.map AJ))),(5,(AB t2.2.1))]∧H=((IB q0 x7 x8 x9)::T0)∧Bl k t2 kq x7 x8 x9 x10=some r) k ⟨t2.2.2.f0,t2.2.2.f1,t2.2.2.f2,t2.1,rfl,rfl,h⟩ ?_;rintro kq12 _ _ ⟨x7,x8,x9,x10,rfl,rfl,h⟩
   cases kq12 with
   | zero=>rw[Bl.eq_1]at h;cases h
   | succ kq12=>
   rw[Bl.eq_2]at h;generalize hrec11:Bl k t2 kq12=rec11 at h;refine .a 5 ?_;rcases oi h with⟨c13,h⟩|⟨c13,h⟩
   ·refine .a 7 ?_;obtain⟨t14,et14,h⟩:=ob h;refine .callH [(.ptr q0 0),(AY (42:Int))] ((EI q0 (Aa.mk x7 x8 x9))::T0) _ rfl rfl rfl 15 rfl (by decide) GD ⟨rfl,rfl,rfl,rfl,trivial⟩ (.cons 0 rfl (.refl _)) (BQ et14) ?_;rintro _ _ ⟨rfl,hs15⟩;refine .wH [0,4,5,14,15] hs15 ?_;refine .a 2 ?_;rcases oi h with⟨c16,h⟩|⟨c16,h⟩
    ·refine .a 3 ?_;refine .lit (Z:=(.fl (.slice none 0 0))) (xs:=(([x10]:List (List AE)).map EZ)) (qs:=[(0,(.fz 5 (x10.map AJ)))]) rfl 17 rfl (by decide) rfl ⟨rfl,rfl,rfl,trivial⟩ Tryz.underlying164 KG LH II rfl (by decide) (Aj (z:=1) [(.fz 5 (x10.map AJ))] rfl ⟨⟨rfl,rfl⟩,trivial⟩) rfl fun n17=>?_;obtain⟨t18,et18,h⟩:=ob h;refine .freezeS 0 [(17,(.fz 1 (([x10]:List (List AE)).map EZ)))] rfl ⟨Ad rfl,trivial⟩ ?_;refine .callS [(AA (4:Int)),(.fz 1 (([x10]:List (List AE)).map EZ))] (.fz 5 (t18.map AJ)) 18 rfl (by decide) OQ rfl rfl rfl ⟨rfl,rfl,rfl,rfl,trivial⟩ (Eb et18) ?_;refine .a 1 ?_;refine .nK [0,4,5] ?_;exact⟨kq12,Nat.lt_succ_self _,t14.2.f0,t14.2.f1,t14.2.f2,t18,rfl,rfl,by rw[hrec11];exact h⟩
    refine .a 4 ?_;obtain⟨t19,et19,h⟩:=ob h;refine .callH [(.ptr q0 0),(AY (43:Int))] ((EI q0 t14.2)::T0) _ rfl rfl rfl 21 rfl (by decide) GD ⟨rfl,rfl,rfl,rfl,trivial⟩ (.cons 0 rfl (.refl _)) (BQ et19) ?_;rintro _ _ ⟨rfl,hs20⟩;refine .wH [0,4,5,13,20,21] hs20 ?_;refine .a 2 ?_;rcases oi h with⟨c21,h⟩|⟨c21,h⟩
    ·refine .a 3 ?_;refine .lit (Z:=(.fl (.slice none 0 0))) (xs:=(([x10]:List (List AE)).map EZ)) (qs:=[(0,(.fz 5 (x10.map AJ)))]) rfl 23 rfl (by decide) rfl ⟨rfl,rfl,rfl,trivial⟩ Tryz.underlying164 KG LH II rfl (by decide) (Aj (z:=1) [(.fz 5 (x10.map AJ))] rfl ⟨⟨rfl,rfl⟩,trivial⟩) rfl fun n22=>?_;obtain⟨t23,et23,h⟩:=ob h;refine .freezeS 0 [(23,(.fz 1 (([x10]:List (List AE)).map EZ)))] rfl ⟨Ad rfl,trivial⟩ ?_;refine .callS [(AA (5:Int)),(.fz 1 (([x10]:List (List AE)).map EZ))] (.fz 5 (t23.map AJ)) 24 rfl (by decide) OQ rfl rfl rfl ⟨rfl,rfl,rfl,rfl,trivial⟩ (Eb et23) ?_;refine .a 1 ?_;refine .nK [0,4,5] ?_;exact⟨kq12,Nat.lt_succ_self _,t19.2.f0,t19.2.f1,t19.2.f2,t23,rfl,rfl,by rw[hrec11];exact h⟩
    refine .a 4 ?_;obtain⟨t24,et24,h⟩:=ob h;refine .callH [(.ptr q0 0),(AY (63:Int))] ((EI q0 t19.2)::T0) _ rfl rfl rfl 27 rfl (by decide) GD ⟨rfl,rfl,rfl,rfl,trivial⟩ (.cons 0 rfl (.refl _)) (BQ et24) ?_;rintro _ _ ⟨rfl,hs25⟩;refine .wH [0,4,5,19,26,27] hs25 ?_;refine .a 2 ?_;rcases oi h with⟨c26,h⟩|⟨c26,h⟩
    ·refine .a 3 ?_;refine .lit (Z:=(.fl (.slice none 0 0))) (xs:=(([x10]:List (List AE)).map EZ)) (qs:=[(0,(.fz 5 (x10.map AJ)))]) rfl 29 rfl (by decide) rfl ⟨rfl,rfl,rfl,trivial⟩ Tryz.underlying164 KG LH II rfl (by decide) (Aj (z:=1) [(.fz 5 (x10.map AJ))] rfl ⟨⟨rfl,rfl⟩,trivial⟩) rfl fun n27=>?_;obtain⟨t28,et28,h⟩:=ob h;refine .freezeS 0 [(29,(.fz 1 (([x10]:List (List AE)).map EZ)))] rfl ⟨Ad rfl,trivial⟩ ?_;refine .callS [(AA (6:Int)),(.fz 1 (([x10]:List (List AE)).map EZ))] (.fz 5 (t28.map AJ)) 30 rfl (by decide) OQ rfl rfl rfl ⟨rfl,rfl,rfl,rfl,trivial⟩ (Eb et28) ?_;refine .a 1 ?_;refine .nK [0,4,5] ?_;exact⟨kq12,Nat.lt_succ_self _,t24.2.f0,t24.2.f1,t24.2.f2,t28,rfl,rfl,by rw[hrec11];exact h⟩
    refine .a 6 ?_;refine .nK [2,3] ?_;refine .rK [2,3] ?_;have hr:=Option.some.inj h;subst hr;exact⟨[(.fz 5 (x10.map AJ)),(AB true)],⟨rfl,rfl,rfl,rfl,trivial⟩,rfl,(.cons 0 rfl (.refl _))⟩
   refine .a 1 ?_;refine .eK [] ?_;exact⟨x7,x8,x9,rfl,rfl,h⟩
  rintro _ _ ⟨x4,x5,x6,rfl,rfl,h⟩;rw[Ik.eq_1]at h;refine .a 4 ?_;refine .nK [2,3] ?_;refine .coeC 2 (y':=(BK ([]:List AE))) rfl EW.nil ?_;refine .rK [2,3] ?_;cases h;exact⟨[(BK ([]:List AE)),(AB false)],⟨rfl,rfl,rfl,rfl,trivial⟩,rfl,(.cons 0 rfl (.refl _))⟩
 intro p0 r h q0 T0;rw[Dm.eq_2]at h;generalize hsself63:Ce k j=self63 at h hself63;generalize hsself84:C3 k j=self84 at h hself84;generalize hsself112:DF k j=self112 at h hself112;generalize hsself123:Dm k j=self123 at h hself123;refine Al.intro (res:=[.tmp 2,.tmp 3]) Tryz.func123 rfl rfl rfl (Nat.le_of_ble_eq_true rfl) ?_;refine .a 10 ?_;obtain⟨t2,et2,h⟩:=ob h;refine .callH [(.ptr q0 0),(AI (ByteArray.mk #[124,41,42,43,63,93,47,34]))] ((q0,(.mem (CN p0)))::T0) _ rfl rfl rfl 10 rfl (by decide) J5 ⟨rfl,rfl,rfl,rfl,trivial⟩ (.cons 0 rfl (.refl _)) (D2 et2) ?_;rintro _ _ ⟨rfl,hs3⟩;refine .wH [0,9,10] hs3 ?_;refine .a 2 ?_;rcases oi h with⟨c4,h⟩|⟨c4,h⟩
 ·refine .a 5 ?_;refine .nK [2,3] ?_;refine .coeC 2 (y':=(BK ([]:List AE))) rfl EW.nil ?_;refine .rK [2,3] ?_;cases h;exact⟨[(BK ([]:List AE)),(AB false)],⟨rfl,rfl,rfl,rfl,trivial⟩,rfl,(.cons 0 rfl (.refl _))⟩
 refine .a 4 ?_;obtain⟨t5,et5,h⟩:=ob h;refine .callH [(.ptr q0 0),(AY (46:Int))] ((q0,(.mem (CN p0)))::T0) _ rfl rfl rfl 13 rfl (by decide) GD ⟨rfl,rfl,rfl,rfl,trivial⟩ (.cons 0 rfl (.refl _)) (BQ et5) ?_;rintro _ _ ⟨rfl,hs6⟩;refine .wH [0,8,12,13] hs6 ?_;refine .a 2 ?_;rcases oi h with⟨c7,h⟩|⟨c7,h⟩
 ·refine .a 3 ?_;obtain⟨t8,et8,h⟩:=ob h;refine .callS [] (.ar 1 (t8.toList.map AL)) 14 rfl (by decide) Q6 rfl rfl rfl trivial (H8 et8) ?_;refine .c (x:=(Ff (1:Int) (t8.toList.map AL))) (.build (qs:=[(0,(AA (1:Int))),(1,(.ar 1 (t8.toList.map AL)))]) rfl ⟨rfl,rfl,rfl,rfl,rfl,rfl,trivial⟩ Tryz.underlying122 rfl Aw Au (.cons rfl rfl rfl rfl (.cast (.fld0 .here) rfl) (.cons rfl rfl (Az _ _) (Az _ _) (.cast (.fldS (.fld0 .here)) rfl) .nil)) rfl) ?_;refine .lit (Z:=(Ff (0:Int) ((Vector.replicate 4 (0:Int)).toList.map AL))) (xs:=(([(AE.mk (1:Int) t8)]:List AE).map AJ)) (qs:=[(0,(AJ (AE.mk (1:Int) t8)))]) rfl 16 rfl (by decide) rfl ⟨rfl,rfl,rfl,trivial⟩ Tryz.underlying75 BC Aw Au rfl (by decide) (Aj (z:=5) [(AJ (AE.mk (1:Int) t8))] rfl ⟨⟨rfl,rfl⟩,trivial⟩) rfl fun n9=>?_;refine .a 2 ?_;refine .nH [2,3] (H':=((EI q0 t5.2)::(n9,(.mem (.ar 5 (([(AE.mk (1:Int) t8)]:List AE).map AJ))))::T0)) (.cons 1 rfl (.cons 0 rfl (.refl _))) ?_;refine .freezeS 1 [(2,(BK ([(AE.mk (1:Int) t8)]:List AE)))] rfl ⟨Ad rfl,trivial⟩ ?_;refine .rK [2,3] ?_;cases h;exact⟨[(BK ([(AE.mk (1:Int) t8)]:List AE)),(AB true)],⟨rfl,rfl,rfl,rfl,trivial⟩,rfl,(.cons 0 rfl (.refl _))⟩
 refine .a 4 ?_;obtain⟨t10,et10,h⟩:=ob h;refine .callH [(.ptr q0 0),(AY (126:Int))] ((EI q0 t5.2)::T0) _ rfl rfl rfl 19 rfl (by decide) GD ⟨rfl,rfl,rfl,rfl,trivial⟩ (.cons 0 rfl (.refl _)) (BQ et10) ?_;rintro _ _ ⟨rfl,hs11⟩;refine .wH [0,11,18,19] hs11 ?_;refine .a 2 ?_;rcases oi h with⟨c12,h⟩|⟨c12,h⟩
 ·refine .a 3 ?_;refine .c (x:=(Ff (0:Int) ((Vector.replicate 4 (0:Int)).toList.map AL))) (.build (qs:=[(0,(AA (0:Int)))]) rfl ⟨rfl,rfl,rfl,trivial⟩ Tryz.underlying122 rfl Aw Au (.cons rfl rfl rfl rfl (.cast (.fld0 .here) rfl) .nil) rfl) ?_;refine .lit (Z:=(Ff (0:Int) ((Vector.replicate 4 (0:Int)).toList.map AL))) (xs:=(([(AE.mk (0:Int) (Vector.replicate 4 (0:Int)))]:List AE).map AJ)) (qs:=[(0,(AJ (AE.mk (0:Int) (Vector.replicate 4 (0:Int)))))]) rfl 21 rfl (by decide) rfl ⟨rfl,rfl,rfl,trivial⟩ Tryz.underlying75 BC Aw Au rfl (by decide) (Aj (z:=5) [(AJ (AE.mk (0:Int) (Vector.replicate 4 (0:Int))))] rfl ⟨⟨rfl,rfl⟩,trivial⟩) rfl fun n13=>?_;refine .a 2 ?_;refine .nH [2,3] (H':=((EI q0 t10.2)::(n13,(.mem (.ar 5 (([(AE.mk (0:Int) (Vector.replicate 4 (0:Int)))]:List AE).map AJ))))::T0)) (.cons 1 rfl (.cons 0 rfl (.refl _))) ?_;refine .freezeS 1 [(2,(BK ([(AE.mk (0:Int) (Vector.replicate 4 (0:Int)))]:List AE)))] rfl ⟨Ad rfl,trivial⟩ ?_;refine .rK [2,3] ?_;cases h;exact⟨[(BK ([(AE.mk (0:Int) (Vector.replicate 4 (0:Int)))]:List AE)),(AB true)],⟨rfl,rfl,rfl,rfl,trivial⟩,rfl,(.cons 0 rfl (.refl _))⟩
 refine .a 4 ?_;obtain⟨t14,et14,h⟩:=ob h;refine .callH [(.ptr q0 0),(AY (40:Int))] ((EI q0 t10.2)::T0) _ rfl rfl rfl 24 rfl (by decide) GD ⟨rfl,rfl,rfl,rfl,trivial⟩ (.cons 0 rfl (.refl _)) (BQ et14) ?_;rintro _ _ ⟨rfl,hs15⟩;refine .wH [0,17,23,24] hs15 ?_;refine .a 2 ?_;rcases oi h with⟨c16,h⟩|⟨c16,h⟩
 ·refine .a 10 ?_;refine .store 0 rfl rfl rfl rfl rfl rfl (.cast (.fldS (.fldS (.fld0 .here))) rfl) rfl rfl DZ rfl ?_;refine .a 4 ?_;obtain⟨t17,et17,h⟩:=ob h;refine .callH [(.ptr q0 0)] ((EI q0 (Aa.mk t14.2.f0 t14.2.f1 (AH (t14.2.f2+(1:Int)))))::T0) _ rfl rfl rfl 34 rfl (by decide) Th ⟨rfl,rfl,trivial⟩ (.cons 0 rfl (.refl _)) (hself63 _ _ et17 _ _) ?_;rintro _ _ ⟨rfl,hs18⟩;refine .wH [0,33,34] hs18 ?_;refine .a 15 ?_;refine .store 0 rfl rfl rfl rfl rfl rfl (.cast (.fldS (.fldS (.fld0 .here))) rfl) rfl rfl DZ rfl ?_;refine .a 2 ?_;obtain⟨⟨b19,x20,x21,x22⟩,q23,h⟩:=ob h;refine .regM [(2,(BK t17.1)),(3,(AB b19))] ((IB q0 x20 x21 x22)::T0) ?_ ?_
  ·refine .a 3 ?_;rcases oi q23 with⟨c24,q23⟩|⟨c24,q23⟩
   ·refine .a 7 ?_;rcases oi q23 with⟨c25,q23⟩|⟨c25,q23⟩
    ·refine .a 1 ?_;obtain⟨t26,et26,q23⟩:=ob q23;refine .unguard 9 true 53 rfl rfl (bD (decide_eq_true c25)) ?_;refine .callH [(.ptr q0 0),(AY (41:Int))] ((EI q0 (Aa.mk t17.2.2.f0 t17.2.2.f1 (AH (t17.2.2.f2 - (1:Int)))))::T0) _ rfl rfl rfl 55 rfl (by decide) GD ⟨rfl,rfl,rfl,rfl,trivial⟩ (.cons 0 rfl (.refl _)) (BQ et26) ?_;rintro _ _ ⟨rfl,hs27⟩;refine .wH [0,4,5,44,45,46,47,48,49,50,51,52,53,54,55] hs27 ?_;refine .a 3 ?_;cases q23;refine .nilE ⟨rfl,rfl⟩ ?_ ?_
     ·exact⟨rfl,rfl,trivial⟩
     exact(.refl _)
    refine .a 5 ?_;cases q23;refine .nilE ⟨rfl,rfl⟩ ?_ ?_
    ·exact⟨rfl,rfl,trivial⟩
    exact(.refl _)
   refine .a 12 ?_;cases q23;refine .nilE ⟨rfl,rfl⟩ ?_ ?_
   ·exact⟨rfl,rfl,trivial⟩
   exact(.refl _)
  refine .rK [2,3] ?_;have hr:=Option.some.inj h;subst hr;exact⟨[(BK t17.1),(AB b19)],⟨rfl,rfl,rfl,rfl,trivial⟩,rfl,(.cons 0 rfl (.refl _))⟩
 refine .a 4 ?_;obtain⟨t28,et28,h⟩:=ob h;refine .callH [(.ptr q0 0),(AY (91:Int))] ((EI q0 t14.2)::T0) _ rfl rfl rfl 59 rfl (by decide) GD ⟨rfl,rfl,rfl,rfl,trivial⟩ (.cons 0 rfl (.refl _)) (BQ et28) ?_;rintro _ _ ⟨rfl,hs29⟩;refine .wH [0,22,58,59] hs29 ?_;refine .a 2 ?_;rcases oi h with⟨c30,h⟩|⟨c30,h⟩
 ·refine .a 4 ?_;obtain⟨t31,et31,h⟩:=ob h;refine .callH [(.ptr q0 0)] ((EI q0 t28.2)::T0) _ rfl rfl rfl 61 rfl (by decide) T3 ⟨rfl,rfl,trivial⟩ (.cons 0 rfl (.refl _)) (Mu et31) ?_;rintro _ _ ⟨rfl,hs32⟩;refine .wH [0,57,60,61] hs32 ?_;refine .a 4 ?_;refine .nK [2,3] ?_;refine .rK [2,3] ?_;cases h;exact⟨[(BK t31.1),(AB t31.2.1)],⟨rfl,rfl,rfl,rfl,trivial⟩,rfl,(.cons 0 rfl (.refl _))⟩
 refine .a 5 ?_;obtain⟨t33,et33,h⟩:=ob h;refine .callH [(.ptr q0 0)] ((EI q0 t28.2)::T0) _ rfl rfl rfl 66 rfl (by decide) PE ⟨rfl,rfl,trivial⟩ (.cons 0 rfl (.refl _)) (GM et33) ?_;rintro _ _ ⟨rfl,hs34⟩;refine .wH [0,65,66] hs34 ?_;refine .a 9 ?_;refine .lit (Z:=(AY (0:Int))) (xs:=(([t33.1]:List Int).map AY)) (qs:=[(0,(AY t33.1))]) rfl 70 rfl (by decide) rfl ⟨rfl,rfl,rfl,trivial⟩ Tryz.underlying130 Hr Rv MR rfl (by decide) (Aj (z:=1) [(AY t33.1)] rfl ⟨⟨rfl,rfl⟩,trivial⟩) rfl fun n35=>?_;obtain⟨t36,et36,h⟩:=ob h;refine .freezeS 0 [(70,(.fz 1 (([t33.1]:List Int).map AY)))] rfl ⟨Ad rfl,trivial⟩ ?_;refine .callS [(.fz 1 (([t33.1]:List Int).map AY))] (.ar 1 (t36.toList.map AL)) 71 rfl (by decide) T9 rfl rfl rfl ⟨rfl,rfl,trivial⟩ (Mr et36) ?_;refine .c (x:=(Ff (1:Int) (t36.toList.map AL))) (.build (qs:=[(0,(AA (1:Int))),(1,(.ar 1 (t36.toList.map AL)))]) rfl ⟨rfl,rfl,rfl,rfl,rfl,rfl,trivial⟩ Tryz.underlying122 rfl Aw Au (.cons rfl rfl rfl rfl (.cast (.fld0 .here) rfl) (.cons rfl rfl (Az _ _) (Az _ _) (.cast (.fldS (.fld0 .here)) rfl) .nil)) rfl) ?_;refine .lit (Z:=(Ff (0:Int) ((Vector.replicate 4 (0:Int)).toList.map AL))) (xs:=(([(AE.mk (1:Int) t36)]:List AE).map AJ)) (qs:=[(0,(AJ (AE.mk (1:Int) t36)))]) rfl 73 rfl (by decide) rfl ⟨rfl,rfl,rfl,trivial⟩ Tryz.underlying75 BC Aw Au rfl (by decide) (Aj (z:=5) [(AJ (AE.mk (1:Int) t36))] rfl ⟨⟨rfl,rfl⟩,trivial⟩) rfl fun n37=>?_;refine .a 3 ?_
 refine .nH [2,3] (H':=((EI q0 t33.2.2)::(n37,(.mem (.ar 5 (([(AE.mk (1:Int) t36)]:List AE).map AJ))))::T0)) (.cons 1 rfl (.cons 0 rfl (.refl _))) ?_;refine .freezeS 1 [(2,(BK ([(AE.mk (1:Int) t36)]:List AE)))] rfl ⟨Ad rfl,trivial⟩ ?_;refine .rK [2,3] ?_;cases h;exact⟨[(BK ([(AE.mk (1:Int) t36)]:List AE)),(AB t33.2.1)],⟨rfl,rfl,rfl,rfl,trivial⟩,rfl,(.cons 0 rfl (.refl _))⟩
theorem Mi {k:Nat} {p0:Aa} {r:((List AE)×Bool×Aa)} (h:Rp k p0=some r) {q0:Nat} {T0:AN}:Al Tryz.prog 63 [(.ptr q0 0)] ((q0,(.mem (CN p0)))::T0) (fun x H'=>x=.tup [(.fz 5 (r.1.map AJ)),(AB r.2.1)]∧BS ((q0,(.mem (CN r.2.2)))::T0) H'):=(Oz k k).1 p0 r h q0 T0
def So (k:Nat) (p0:ByteArray):Option ((List AE)×Int):=
 if(1600:Int)<(p0.size:Int)then some ([],(6:Int))
 else(Rp k (Aa.mk p0 (0:Int) (0:Int))).bind fun t4=>
 Option.bind (α:=Bool) (if(!t4.2.1)=true then some (true)
 else some (decide (t4.2.2.f1<(p0.size:Int)))) fun b6=>
 if b6=true then some ([],(5:Int))
 else if(400:Int)<(t4.1.length:Int)then some ([],(6:Int))
 else some (t4.1,(0:Int))
theorem N1 {k:Nat} {p0:ByteArray} {r:((List AE)×Int)} (h:So k p0=some r):AM Tryz.prog 36 [(AI p0)] (.tup [(.fz 5 (r.1.map AJ)),(AA r.2)]):=by
 rw[So.eq_1]at h;refine AM.intro (res:=[.tmp 2,.tmp 3]) Tryz.func36 rfl rfl rfl (Nat.le_of_ble_eq_true rfl) ?_;refine .a 12 ?_;rcases oi h with⟨c2,h⟩|⟨c2,h⟩
 ·refine .a 5 ?_;refine .nK [2,3] ?_;refine .coeC 2 (y':=(BK ([]:List AE))) rfl EW.nil ?_;refine .rK [2,3] ?_;cases h;exact⟨[(BK ([]:List AE)),(AA (6:Int))],⟨rfl,rfl,rfl,rfl,trivial⟩,rfl⟩
 refine .a 5 ?_;refine .c (x:=(.st [(1,(AI p0)),(1,(AA (0:Int))),(1,(AA (0:Int)))])) (.build (qs:=[(0,(AI p0))]) rfl ⟨rfl,rfl,rfl,trivial⟩ Tryz.underlying110 rfl Tu Ra (.cons rfl rfl rfl rfl (.cast (.fld0 .here) rfl) .nil) rfl) ?_;refine .box rfl 12 rfl (by decide) rfl rfl rfl fun n3=>?_;refine .a 5 ?_;obtain⟨t4,et4,h⟩:=ob h;refine .callH [(.ptr n3 0)] [(EI n3 (Aa.mk p0 (0:Int) (0:Int)))] _ rfl rfl rfl 15 rfl (by decide) Th ⟨rfl,rfl,trivial⟩ (.cons 0 rfl (.refl _)) (Mi et4) ?_;rintro _ _ ⟨rfl,hs5⟩;refine .wH [0,4,14,15] hs5 ?_;refine .a 9 ?_;obtain⟨b6,q7,h⟩:=ob h;refine .regM [(5,(.fz 5 (t4.1.map AJ))),(18,(AB b6))] [] ?_ ?_
 ·refine .a 3 ?_;rcases oi q7 with⟨c8,q7⟩|⟨c8,q7⟩
  ·refine .a 9 ?_;cases q7;refine .nilE ⟨rfl,rfl⟩ ?_ ?_
   ·exact⟨rfl,rfl,trivial⟩
   exact(.nil _)
  refine .a 9 ?_;cases q7;refine .nilE ⟨rfl,rfl⟩ ?_ ?_
  ·exact⟨rfl,rfl,trivial⟩
  exact(.nil _)
 rcases oi h with⟨c9,h⟩|⟨c9,h⟩
 ·refine .a 5 ?_;refine .nK [2,3] ?_;refine .coeC 2 (y':=(BK ([]:List AE))) rfl EW.nil ?_;refine .rK [2,3] ?_;cases h;exact⟨[(BK ([]:List AE)),(AA (5:Int))],⟨rfl,rfl,rfl,rfl,trivial⟩,rfl⟩
 refine .a 8 ?_;rcases oi h with⟨c10,h⟩|⟨c10,h⟩
 ·refine .a 5 ?_;refine .nK [2,3] ?_;refine .coeC 2 (y':=(BK ([]:List AE))) rfl EW.nil ?_;refine .rK [2,3] ?_;cases h;exact⟨[(BK ([]:List AE)),(AA (6:Int))],⟨rfl,rfl,rfl,rfl,trivial⟩,rfl⟩
 refine .a 7 ?_;refine .nK [2,3] ?_;refine .rK [2,3] ?_;cases h;exact⟨[(.fz 5 (t4.1.map AJ)),(AA (0:Int))],⟨rfl,rfl,rfl,rfl,trivial⟩,rfl⟩
def K8 (k:Nat) (x3:Int):Option Int:=
 if x3≠(1:Int)then some ((5:Int))
 else some ((0:Int))
def CC (k:Nat) (p0:(List AE)):Nat→Int→Int→Option Int
 | 0,_,_=>none
 | j+1,x5,x6=>
   if x6<(p0.length:Int)then if 0≤x6∧x6<(p0.length:Int)then(PQ k ((AC p0 x6).f0)).bind fun t12=>
   Option.bind (α:=Bool) (if t12<(0:Int)then some (true)
   else if x5<t12 then some (true)
   else(Sp k ((AC p0 x6).f1)).bind fun t17=>
   some (((decide (((AC p0 x6).f0)=(1:Int)))==t17))) fun b13=>
   if b13=true then some ((5:Int))
   else(CC k p0 j) (AH (x5+(AH ((1:Int) -t12)))) (AH (x6+(1:Int)))
   else none
   else K8 k x5
def Ti (k:Nat) (p0:(List AE)):Option Int:=
 if(400:Int)<(p0.length:Int)then some ((6:Int))
 else CC k p0 k (0:Int) (0:Int)
theorem OO {k:Nat} {p0:(List AE)} {r:Int} (h:Ti k p0=some r):AM Tryz.prog 64 [(.fz 5 (p0.map AJ))] (AA r):=by
 rw[Ti.eq_1]at h;refine AM.intro (res:=[.tmp 2]) Tryz.func64 rfl rfl rfl (Nat.le_of_ble_eq_true rfl) ?_;refine .a 11 ?_;rcases oi h with⟨c2,h⟩|⟨c2,h⟩
 ·refine .a 4 ?_;refine .nK [2] ?_;refine .rK [2] ?_;cases h;exact⟨[(AA (6:Int))],⟨rfl,rfl,trivial⟩,rfl⟩
 refine .a 5 ?_;refine .nK [0,3] ?_;refine .seq_mid (fun ρ H=>∃ (x3:Int),ρ=[(3,(AA x3))]∧H=[]∧K8 k x3=some r) ?_ ?_
 ·refine .a 7 ?_;refine .wK [3,10,11,12] ?_;refine .loop (fun kq ρ H=>∃ (x5:Int) (x6:Int),ρ=[(3,(AA x5)),(10,(.fz 5 (p0.map AJ))),(11,(AA (p0.length:Int))),(12,(AA x6))]∧H=[]∧CC k p0 kq x5 x6=some r) k ⟨(0:Int),(0:Int),rfl,rfl,h⟩ ?_;rintro kq8 _ _ ⟨x5,x6,rfl,rfl,h⟩
  cases kq8 with
  | zero=>rw[CC.eq_1]at h;cases h
  | succ kq8=>
  rw[CC.eq_2]at h;generalize hrec7:CC k p0 kq8=rec7 at h;refine .a 5 ?_;rcases oi h with⟨c9,h⟩|⟨c9,h⟩
  ·refine .a 6 ?_;obtain⟨g10,h⟩:=AD h;refine .a 2 ?_;refine .alloc rfl 5 rfl (by decide) rfl Aw Au fun n11=>?_;refine .store 0 rfl rfl rfl rfl rfl rfl (.cast .here rfl) rfl rfl BC rfl ?_;refine .a 5 ?_;obtain⟨t12,et12,h⟩:=ob h;refine .callS [(AA ((AC p0 x6).f0))] (AA t12) 18 rfl (by decide) RL rfl rfl rfl ⟨rfl,rfl,trivial⟩ (G1 et12) ?_;refine .a 4 ?_;obtain⟨b13,q14,h⟩:=ob h;refine .regQM (by rfl) (by decide+kernel) [(3,(AA x5)),(6,(AA t12)),(10,(.fz 5 (p0.map AJ))),(11,(AA (p0.length:Int))),(12,(AA x6)),(34,(AB b13))] ?_ ?_
   ·refine .a 3 ?_;rcases oi q14 with⟨c15,q14⟩|⟨c15,q14⟩
    ·refine .a 13 ?_;cases q14;refine .nilE rfl ?_;exact⟨rfl,rfl,rfl,rfl,rfl,rfl,trivial⟩
    refine .a 5 ?_;rcases oi q14 with⟨c16,q14⟩|⟨c16,q14⟩
    ·refine .a 8 ?_;cases q14;refine .nilE rfl ?_;exact⟨rfl,rfl,rfl,rfl,rfl,rfl,trivial⟩
    refine .a 5 ?_;obtain⟨t17,et17,q14⟩:=ob q14;refine .cG rfl rfl (bD (decide_eq_false c16)) (.call (args:=[(.ar 1 (((AC p0 x6).f1).toList.map AL))]) rfl rfl S5 ⟨rfl,rfl,trivial⟩ rfl (KM et17)) ?_;refine .cG (x:=AB ((decide (((AC p0 x6).f0)=(1:Int)))==t17)) rfl rfl (bD (decide_eq_false c16)) (.boolEq rfl rfl rfl Tryz.underlying4) ?_;refine .a 1 ?_;cases q14;refine .nilE rfl ?_;exact⟨rfl,rfl,rfl,rfl,rfl,rfl,trivial⟩
   rcases oi h with⟨c18,h⟩|⟨c18,h⟩
   ·refine .a 4 ?_;refine .nS [2] [] ?_;refine .rK [2] ?_;cases h;exact⟨[(AA (5:Int))],⟨rfl,rfl,trivial⟩,rfl⟩
   refine .a 1 ?_;refine .sH [3,6,10,11,12] (H':=[]) (.nil _) ?_;refine .a 10 ?_;refine .nK [3,10,11,12] ?_;exact⟨kq8,Nat.lt_succ_self _,(AH (x5+(AH ((1:Int) -t12)))),(AH (x6+(1:Int))),rfl,rfl,by rw[hrec7];exact h⟩
  refine .a 1 ?_;refine .eK [3] ?_;exact⟨x5,rfl,rfl,h⟩
 rintro _ _ ⟨x3,rfl,rfl,h⟩;rw[K8.eq_1]at h;refine .a 6 ?_;rcases oi h with⟨c4,h⟩|⟨c4,h⟩
 ·refine .a 4 ?_;refine .nK [2] ?_;refine .rK [2] ?_;cases h;exact⟨[(AA (5:Int))],⟨rfl,rfl,trivial⟩,rfl⟩
 refine .a 5 ?_;refine .nK [2] ?_;refine .rK [2] ?_;cases h;exact⟨[(AA (0:Int))],⟨rfl,rfl,trivial⟩,rfl⟩
def Jx (k:Nat) (p0:BD):Option (Int×BD):=
 some ((AH ((AH (p0.f0.f0+(1:Int))) - (1:Int))),(BD.mk (Ay.mk (AH (p0.f0.f0+(1:Int))) p0.f0.f1 p0.f0.f2 p0.f0.f3)))
theorem Hv {k:Nat} {p0:BD} {r:(Int×BD)} (h:Jx k p0=some r) {q0:Nat} {q0_0:Nat} {T0:AN}:Al Tryz.prog 114 [(.ptr q0 0)] ((q0,(.mem (.st [(4,(.st [(1,(AA p0.f0.f0)),(1,(.own q0_0 0 p0.f0.f1.length)),(1,(AA p0.f0.f2)),(1,(AA p0.f0.f3))]))])))::(q0_0,(.mem (.ar 7 (p0.f0.f1.map A9))))::T0) (fun x H'=>∃ m0_0,x=(AA r.1)∧BS ((q0,(.mem (.st [(4,(.st [(1,(AA r.2.f0.f0)),(1,(.own m0_0 0 r.2.f0.f1.length)),(1,(AA r.2.f0.f2)),(1,(AA r.2.f0.f3))]))])))::(m0_0,(.mem (.ar 7 (r.2.f0.f1.map A9))))::T0) H'):=by
 rw[Jx.eq_1]at h;refine Al.intro (res:=[.tmp 2]) Tryz.func114 rfl rfl rfl (Nat.le_of_ble_eq_true rfl) ?_;refine .a 15 ?_;refine .store 0 rfl rfl rfl rfl rfl rfl (.cast (.fld0 (.fld0 .here)) rfl) rfl rfl DZ rfl ?_;refine .a 10 ?_;refine .nK [2] ?_;refine .rK [2] ?_;cases h;exact⟨[(AA (AH ((AH (p0.f0.f0+(1:Int))) - (1:Int))))],⟨rfl,rfl,trivial⟩,q0_0,rfl,(.cons 0 rfl (.cons 0 rfl (.refl _)))⟩
def SV (k:Nat) (p0:BD):Option (Ar×BD):=
 (Jx k (BD.mk (Ay.mk p0.f0.f0 p0.f0.f1 p0.f0.f2 p0.f0.f3))).bind fun t3=>
 (Jx k (BD.mk (Ay.mk t3.2.f0.f0 t3.2.f0.f1 t3.2.f0.f2 t3.2.f0.f3))).bind fun t6=>
 some ((Ar.mk t3.1 t6.1),(BD.mk (Ay.mk t6.2.f0.f0 t6.2.f0.f1 t6.2.f0.f2 t6.2.f0.f3)))
theorem Oc {k:Nat} {p0:BD} {r:(Ar×BD)} (h:SV k p0=some r) {q0:Nat} {q0_0:Nat} {T0:AN}:Al Tryz.prog 89 [(.ptr q0 0)] ((q0,(.mem (.st [(4,(.st [(1,(AA p0.f0.f0)),(1,(.own q0_0 0 p0.f0.f1.length)),(1,(AA p0.f0.f2)),(1,(AA p0.f0.f3))]))])))::(q0_0,(.mem (.ar 7 (p0.f0.f1.map A9))))::T0) (fun x H'=>∃ m0_0,x=(Cb r.1)∧BS ((q0,(.mem (.st [(4,(.st [(1,(AA r.2.f0.f0)),(1,(.own m0_0 0 r.2.f0.f1.length)),(1,(AA r.2.f0.f2)),(1,(AA r.2.f0.f3))]))])))::(m0_0,(.mem (.ar 7 (r.2.f0.f1.map A9))))::T0) H'):=by
 rw[SV.eq_1]at h;refine Al.intro (res:=[.cell 2 125]) Tryz.func89 rfl rfl rfl (Nat.le_of_ble_eq_true rfl) ?_;refine .sr ?_;refine .alloc rfl 2 rfl (by decide) rfl En DY fun n2=>?_;refine .nH [0,2] (H':=((Z0 q0 p0.f0.f0 q0_0 p0.f0.f1.length p0.f0.f2 p0.f0.f3)::(Z5 q0_0 p0.f0.f1)::(n2,(Hy (0:Int)))::T0)) (.cons 1 rfl (.cons 1 rfl (.cons 0 rfl (.refl _)))) ?_;refine .a 3 ?_;obtain⟨t3,et3,h⟩:=ob h;refine .callH [(.ptr q0 0)] ((Z0 q0 p0.f0.f0 q0_0 p0.f0.f1.length p0.f0.f2 p0.f0.f3)::(Z5 q0_0 p0.f0.f1)::(n2,(Hy (0:Int)))::T0) _ rfl rfl rfl 5 rfl (by decide) Qo ⟨rfl,rfl,trivial⟩ (.cons 0 rfl (.cons 0 rfl (.refl _))) (Hv et3) ?_;rintro _ _ ⟨n5,rfl,hs4⟩;refine .wH [0,2,4,5] hs4 ?_;refine .a 6 ?_;obtain⟨t6,et6,h⟩:=ob h;refine .callH [(.ptr q0 0)] ((Z0 q0 t3.2.f0.f0 n5 t3.2.f0.f1.length t3.2.f0.f2 t3.2.f0.f3)::(Z5 n5 t3.2.f0.f1)::(n2,(Hy (0:Int)))::T0) _ rfl rfl rfl 8 rfl (by decide) Qo ⟨rfl,rfl,trivial⟩ (.cons 0 rfl (.cons 0 rfl (.refl _))) (Hv et6) ?_;rintro _ _ ⟨n8,rfl,hs7⟩;refine .wH [0,2,3,6,7,8] hs7 ?_;refine .c (x:=(.st [(1,(AA t3.1)),(1,(AA t6.1))])) (.build (qs:=[(0,(AA t3.1)),(1,(AA t6.1))]) rfl ⟨rfl,rfl,rfl,rfl,rfl,rfl,trivial⟩ Tryz.underlying125 rfl En DY (.cons rfl rfl rfl rfl (.cast (.fld0 .here) rfl) (.cons rfl rfl rfl rfl (.cast (.fldS (.fld0 .here)) rfl) .nil)) rfl) ?_;refine .store 2 rfl rfl rfl rfl rfl rfl (.cast .here rfl) rfl rfl CJ rfl ?_;refine .nK [2] ?_;refine .rK [2] ?_;cases h
 exact⟨[(Cb (Ar.mk t3.1 t6.1))],⟨⟨_,2,rfl,rfl,H3,CJ⟩,trivial⟩,n8,rfl,(.cons 0 rfl (.cons 0 rfl (.drop (.refl _))))⟩
def GT (k:Nat) (p0:BD) (p1:Int) (p2:Int):Option BD:=
 if(p0.f0.f1++([(AR.mk p1 p2 (Vector.replicate 4 (0:Int)) true)]:List AR)).length*56≤140737488355328 then some ((BD.mk (Ay.mk p0.f0.f0 (p0.f0.f1++([(AR.mk p1 p2 (Vector.replicate 4 (0:Int)) true)]:List AR)) p0.f0.f2 p0.f0.f3)))
 else none
theorem Bp {k:Nat} {p0:BD} {p1:Int} {p2:Int} {r:BD} (h:GT k p0 p1 p2=some r) {q0:Nat} {q0_0:Nat} {T0:AN}:Al Tryz.prog 90 [(.ptr q0 0),(AA p1),(AA p2)] ((q0,(.mem (.st [(4,(.st [(1,(AA p0.f0.f0)),(1,(.own q0_0 0 p0.f0.f1.length)),(1,(AA p0.f0.f2)),(1,(AA p0.f0.f3))]))])))::(q0_0,(.mem (.ar 7 (p0.f0.f1.map A9))))::T0) (fun x H'=>∃ m0_0,x=.tup []∧BS ((q0,(.mem (.st [(4,(.st [(1,(AA r.f0.f0)),(1,(.own m0_0 0 r.f0.f1.length)),(1,(AA r.f0.f2)),(1,(AA r.f0.f3))]))])))::(m0_0,(.mem (.ar 7 (r.f0.f1.map A9))))::T0) H'):=by
 rw[GT.eq_1]at h;refine Al.intro (res:=[]) Tryz.func90 rfl rfl rfl (Nat.le_of_ble_eq_true rfl) ?_;refine .a 9 ?_;refine .c (x:=(.st [(1,(AA p1)),(1,(AA p2)),(4,(.ar 1 ((Vector.replicate 4 (0:Int)).toList.map AL))),(1,(AB true))])) (.build (qs:=[(0,(AA p1)),(1,(AA p2)),(3,(AB true))]) rfl ⟨rfl,rfl,rfl,rfl,rfl,rfl,rfl,rfl,rfl,trivial⟩ Tryz.underlying127 rfl FH Eh (.cons rfl rfl rfl rfl (.cast (.fld0 .here) rfl) (.cons rfl rfl rfl rfl (.cast (.fldS (.fld0 .here)) rfl) (.cons rfl rfl rfl rfl (.cast (.fldS (.fldS (.fldS (.fld0 .here)))) rfl) .nil))) rfl) ?_;refine .lit (Z:=(.st [(1,(AA (0:Int))),(1,(AA (0:Int))),(4,(.ar 1 ((Vector.replicate 4 (0:Int)).toList.map AL))),(1,(AB false))])) (xs:=(([(AR.mk p1 p2 (Vector.replicate 4 (0:Int)) true)]:List AR).map A9)) (qs:=[(0,(A9 (AR.mk p1 p2 (Vector.replicate 4 (0:Int)) true)))]) rfl 15 rfl (by decide) rfl ⟨rfl,rfl,rfl,trivial⟩ Tryz.underlying78 Fe FH Eh rfl (by decide) (Aj (z:=7) [(A9 (AR.mk p1 p2 (Vector.replicate 4 (0:Int)) true))] rfl ⟨⟨rfl,rfl⟩,trivial⟩) rfl fun n4=>?_;obtain⟨g6,h⟩:=AD h;refine .appendL (l:=p0.f0.f1) (m:=([(AR.mk p1 p2 (Vector.replicate 4 (0:Int)) true)]:List AR)) 2 16 rfl (by decide) rfl rfl rfl rfl rfl (EJ.ownL (f:=A9) (l:=([(AR.mk p1 p2 (Vector.replicate 4 (0:Int)) true)]:List AR)) 0 rfl) Tryz.underlying78 Tryz.underlying78 Fe Q9 FH rfl g6 (by decide) fun n5=>?_;refine .a 3 ?_;refine .store 1 rfl rfl rfl rfl rfl rfl (.cast (.fld0 (.fldS (.fld0 .here))) rfl) rfl rfl R0 rfl ?_
 refine .nH [] (H':=((Z0 q0 p0.f0.f0 n5 (p0.f0.f1++([(AR.mk p1 p2 (Vector.replicate 4 (0:Int)) true)]:List AR)).length p0.f0.f2 p0.f0.f3)::(Z5 n5 (p0.f0.f1++([(AR.mk p1 p2 (Vector.replicate 4 (0:Int)) true)]:List AR)))::T0)) (.cons 1 rfl (.cons 1 rfl (.drop (.refl _)))) ?_;cases h;exact⟨[],trivial,n5,rfl,(.cons 0 rfl (.cons 0 rfl (.refl _)))⟩
end Go.Avl.TC
