/- Parts: T8f97, T8f98, T8f74, T8f73, T8f100, T8f117, T8f116, T8f99, T8f75, T8f101. -/
import Derived.Test.YtpkgpmmcbpfenaaGreatAF1
import Derived.Test.YtpkgpmmcbpfenaaGreatAF4
namespace Go.Avl.T8
open Go Go.RowKit Go.Proofs Go.Avl
set_option linter.unusedVariables false
set_option maxRecDepth 100000
set_option maxHeartbeats 4000000
attribute [local irreducible] AW AO AQ AY Aq AH
def Mu (k:Nat) (x6:(List Bool)):Option (List Bool):=
 some (x6)
def EX (k:Nat) (rec15:((List Bool)→Bool→Int→Option (List Bool))) (x14:Int) (x18:(List Bool)) (b19:Bool):Option (List Bool):=
 rec15 x18 b19 (AG (x14+(1:Int)))
def FV (k:Nat) (rec15:((List Bool)→Bool→Int→Option (List Bool))) (p0:AI) (x12:(List Bool)) (b13:Bool) (x14:Int):Nat→Int→Option (List Bool)
 | 0,_=>none
 | j+1,x23=>
   if x23<((AA p0.f1 x14).length:Int)then if 0≤x23∧x23<((AA p0.f1 x14).length:Int)then Option.bind (α:=Bool) (if(0:Int)≤(AA (AA p0.f1 x14) x23)then if(AA (AA p0.f1 x14) x23)<(x12.length:Int)then if 0≤(AA (AA p0.f1 x14) x23)∧(AA (AA p0.f1 x14) x23)<(x12.length:Int)then some ((AA x12 (AA (AA p0.f1 x14) x23)))
   else none
   else some (false)
   else some (false)) fun b28=>
   if b28=true then if 0≤x14∧x14<(x12.length:Int)then EX k rec15 x14 (AU x12 x14 true) true
   else none
   else(FV k rec15 p0 x12 b13 x14 j) (AG (x23+(1:Int)))
   else none
   else EX k rec15 x14 x12 b13
def Dn (k:Nat) (rec9:((List Bool)→Bool→Option (List Bool))) (p0:AI):Nat→(List Bool)→Bool→Int→Option (List Bool)
 | 0,_,_,_=>none
 | j+1,x12,b13,x14=>
   if x14<(p0.f1.length:Int)then if 0≤x14∧x14<(p0.f1.length:Int)then if 0≤x14∧x14<(x12.length:Int)then if(AA x12 x14)=true then EX k (Dn k rec9 p0 j) x14 x12 b13
   else FV k (Dn k rec9 p0 j) p0 x12 b13 x14 k (0:Int)
   else none
   else none
   else rec9 x12 b13
def EZ (k:Nat) (p0:AI):Nat→(List Bool)→Bool→Option (List Bool)
 | 0,_,_=>none
 | j+1,x7,b8=>
   if b8=true then Dn k (EZ k p0 j) p0 k x7 false (0:Int)
   else Mu k x7
def Li (k:Nat) (p0:AI) (x5:(List Bool)):Option (List Bool):=
 EZ k p0 k x5 true
def Ff (k:Nat) (p0:AI):Nat→(List Bool)→Int→Option (List Bool)
 | 0,_,_=>none
 | j+1,x35,x36=>
   if x36<((List.replicate (p0.f1.length:Int).toNat false).length:Int)then(RD k p0 x36).bind fun t40=>
   if 0≤x36∧x36<(x35.length:Int)then(Ff k p0 j) (AU x35 x36 (decide ((0:Int)≤t40))) (AG (x36+(1:Int)))
   else none
   else Li k p0 x35
def Za (k:Nat) (p0:AI):Option (List Bool):=
 if 0≤(p0.f1.length:Int)∧(p0.f1.length:Int)*(1:Int)≤140737488355328∧(p0.f1.length:Int)≤9223372036854775807 then Ff k p0 k (List.replicate (p0.f1.length:Int).toNat false) (0:Int)
 else none
theorem SC {k:Nat} {p0:AI} {r:(List Bool)} (h:Za k p0=some r):AY Tryz.prog 97 [(Ak p0)] (G7 r):=by
 rw[Za.eq_1]at h;refine AY.intro (res:=[.tmp 2]) Tryz.func97 rfl rfl rfl (Nat.le_of_ble_eq_true rfl) ?_;refine .sr ?_;refine .box rfl 1 rfl (by decide) rfl rfl rfl fun n2=>?_;refine .a 7 ?_;obtain⟨g4,h⟩:=AC h;refine .makeL (f:=AD) false rfl 13 rfl (by decide) rfl rfl rfl Tryz.underlying95 Bw KI G3 D9 rfl g4 fun n3=>?_;refine .a 1 ?_;refine .nS [1,3] [1,0] ?_;refine .seq_mid (fun ρ H=>∃ (x5:(List Bool)),ρ=[(1,(.ptr n2 0)),(3,(.own n3 0 x5.length))]∧H=[(n2,(.mem (Ak p0))),(Z9 n3 x5)]∧Li k p0 x5=some r) ?_ ?_
 ·refine .a 7 ?_;refine .wK [1,3,15,16] ?_;refine .loop (fun kq ρ H=>∃ (x35:(List Bool)) (x36:Int),ρ=[(1,(.ptr n2 0)),(3,(.own n3 0 x35.length)),(15,(AB ((List.replicate (p0.f1.length:Int).toNat false).length:Int))),(16,(AB x36))]∧H=[(n2,(.mem (Ak p0))),(Z9 n3 x35)]∧Ff k p0 kq x35 x36=some r) k ⟨(List.replicate (p0.f1.length:Int).toNat false),(0:Int),rfl,rfl,h⟩ ?_;rintro kq38 _ _ ⟨x35,x36,rfl,rfl,h⟩
  cases kq38 with
  | zero=>rw[Ff.eq_1]at h;cases h
  | succ kq38=>
  rw[Ff.eq_2]at h;generalize hrec37:Ff k p0 kq38=rec37 at h;refine .a 5 ?_;rcases oi h with⟨c39,h⟩|⟨c39,h⟩
  ·refine .a 14 ?_;obtain⟨t40,et40,h⟩:=ob h;refine .callS [(Ak p0),(AB x36)] (AB t40) 23 rfl (by decide) XC rfl rfl rfl ⟨rfl,rfl,rfl,rfl,trivial⟩ (KU et40) ?_;refine .a 1 ?_;obtain⟨g41,h⟩:=AC h;refine .a 1 ?_;refine .store 1 rfl rfl rfl rfl rfl rfl (.cast (.lidx x36 (decide ((0:Int)≤t40)) g41.1 g41.2 .here) (by omega)) rfl rfl Bw rfl ?_;refine .coe 3 (y':=(BL n3 (AU x35 x36 (decide ((0:Int)≤t40))).length)) rfl (fun _ _ h=>Ad h) ?_;refine .coe 19 (y':=(BL n3 (AU x35 x36 (decide ((0:Int)≤t40))).length)) rfl (fun _ _ h=>Ad h) ?_;refine .a 4 ?_;refine .nK [1,3,15,16] ?_;exact⟨kq38,Nat.lt_succ_self _,(AU x35 x36 (decide ((0:Int)≤t40))),(AG (x36+(1:Int))),rfl,rfl,by rw[hrec37];exact h⟩
  refine .a 1 ?_;refine .eK [1,3] ?_;exact⟨x35,rfl,rfl,h⟩
 rintro _ _ ⟨x5,rfl,rfl,h⟩;rw[Li.eq_1]at h;refine .seq_mid (fun ρ H=>∃ (x6:(List Bool)),ρ=[(3,(.own n3 0 x6.length))]∧H=[(Z9 n3 x6)]∧Mu k x6=some r) ?_ ?_
 ·refine .a 5 ?_;refine .wK [1,3,5] ?_;refine .loop (fun kq ρ H=>∃ (x7:(List Bool)) (b8:Bool),ρ=[(1,(.ptr n2 0)),(3,(.own n3 0 x7.length)),(5,(AD b8))]∧H=[(n2,(.mem (Ak p0))),(Z9 n3 x7)]∧EZ k p0 kq x7 b8=some r) k ⟨x5,true,rfl,rfl,h⟩ ?_;rintro kq10 _ _ ⟨x7,b8,rfl,rfl,h⟩
  cases kq10 with
  | zero=>rw[EZ.eq_1]at h;cases h
  | succ kq10=>
  rw[EZ.eq_2]at h;generalize hrec9:EZ k p0 kq10=rec9 at h;refine .a 5 ?_;rcases oi h with⟨c11,h⟩|⟨c11,h⟩
  ·refine .a 3 ?_;refine .scope ?_;refine .a 5 ?_;refine .lK [1,3,5] ?_;refine .a 8 ?_;refine .wK [1,3,5,29,30,31] ?_;refine .loop (fun kq ρ H=>∃ (x12:(List Bool)) (b13:Bool) (x14:Int),ρ=[(1,(.ptr n2 0)),(3,(.own n3 0 x12.length)),(5,(AD b13)),(29,(.fz 1 (p0.f1.map Ce))),(30,(AB (p0.f1.length:Int))),(31,(AB x14))]∧H=[(n2,(.mem (Ak p0))),(Z9 n3 x12)]∧Dn k rec9 p0 kq x12 b13 x14=some r) k ⟨x7,false,(0:Int),rfl,rfl,h⟩ ?_;rintro kq16 _ _ ⟨x12,b13,x14,rfl,rfl,h⟩
   cases kq16 with
   | zero=>rw[Dn.eq_1]at h;cases h
   | succ kq16=>
   rw[Dn.eq_2]at h;generalize hrec15:Dn k rec9 p0 kq16=rec15 at h;refine .a 5 ?_;rcases oi h with⟨c17,h⟩|⟨c17,h⟩
   ·refine .a 1 ?_;refine .sK [1,3,5,29,30,31] ?_;refine .seq_mid (fun ρ H=>∃ (x18:(List Bool)) (b19:Bool),ρ=[(1,(.ptr n2 0)),(3,(.own n3 0 x18.length)),(5,(AD b19)),(29,(.fz 1 (p0.f1.map Ce))),(30,(AB (p0.f1.length:Int))),(31,(AB x14))]∧H=[(n2,(.mem (Ak p0))),(Z9 n3 x18)]∧EX k rec15 x14 x18 b19=some r) ?_ ?_
    ·refine .a 4 ?_;obtain⟨g20,h⟩:=AC h;refine .a 10 ?_;obtain⟨g21,h⟩:=AC h;refine .c (.idxO 1 rfl rfl rfl rfl g21 Tryz.underlying95 Bw) ?_;refine .c (.load 1 rfl rfl rfl (.cast (.lidx x14 g21.1 g21.2 .here) (by omega)) TF Bw) ?_;refine .nK [1,3,5,6,7,29,30,31,39] ?_;rcases oi h with⟨c22,h⟩|⟨c22,h⟩
     ·refine .a 1 ?_;refine .eK [1,3,5,29,30,31] ?_;exact⟨x12,b13,rfl,rfl,h⟩
     refine .a 9 ?_;refine .wK [1,3,5,6,29,30,31,40,41,42] ?_;refine .loop (fun kq ρ H=>∃ (x23:Int),ρ=[(1,(.ptr n2 0)),(3,(.own n3 0 x12.length)),(5,(AD b13)),(6,(AB x14)),(29,(.fz 1 (p0.f1.map Ce))),(30,(AB (p0.f1.length:Int))),(31,(AB x14)),(40,(Df (AA p0.f1 x14))),(41,(AB ((AA p0.f1 x14).length:Int))),(42,(AB x23))]∧H=[(n2,(.mem (Ak p0))),(Z9 n3 x12)]∧FV k rec15 p0 x12 b13 x14 kq x23=some r) k ⟨(0:Int),rfl,rfl,h⟩ ?_;rintro kq25 _ _ ⟨x23,rfl,rfl,h⟩
     cases kq25 with
     | zero=>rw[FV.eq_1]at h;cases h
     | succ kq25=>
     rw[FV.eq_2]at h;generalize hrec24:FV k rec15 p0 x12 b13 x14 kq25=rec24 at h;refine .a 5 ?_;rcases oi h with⟨c26,h⟩|⟨c26,h⟩
     ·refine .a 6 ?_;obtain⟨g27,h⟩:=AC h;refine .a 5 ?_;obtain⟨b28,q29,h⟩:=ob h;refine .regM [(1,(.ptr n2 0)),(3,(.own n3 0 x12.length)),(5,(AD b13)),(6,(AB x14)),(29,(.fz 1 (p0.f1.map Ce))),(30,(AB (p0.f1.length:Int))),(31,(AB x14)),(40,(Df (AA p0.f1 x14))),(41,(AB ((AA p0.f1 x14).length:Int))),(42,(AB x23)),(59,(AD b28))] [(n2,(.mem (Ak p0))),(Z9 n3 x12)] ?_ ?_
      ·refine .a 3 ?_;rcases oi q29 with⟨c30,q29⟩|⟨c30,q29⟩
       ·refine .a 6 ?_;rcases oi q29 with⟨c31,q29⟩|⟨c31,q29⟩
        ·refine .a 2 ?_;obtain⟨g32,q29⟩:=AC q29;refine .cG rfl rfl (bD (decide_eq_true c31)) (.idxO 1 rfl rfl rfl rfl g32 Tryz.underlying95 Bw) ?_;refine .cG rfl rfl (bD (decide_eq_true c31)) (.load 1 rfl rfl rfl (.cast (.lidx (AA (AA p0.f1 x14) x23) g32.1 g32.2 .here) (by omega)) TF Bw) ?_;refine .c (.pickT rfl (bD (decide_eq_true c31)) rfl) ?_;cases q29;refine .nilE ⟨rfl,rfl⟩ ?_ ?_
         ·exact⟨rfl,rfl,rfl,rfl,rfl,rfl,rfl,rfl,rfl,rfl,rfl,trivial⟩
         exact(.refl _)
        refine .a 5 ?_;cases q29;refine .nilE ⟨rfl,rfl⟩ ?_ ?_
        ·exact⟨rfl,rfl,rfl,rfl,rfl,rfl,rfl,rfl,rfl,rfl,rfl,trivial⟩
        exact(.refl _)
       refine .a 11 ?_;cases q29;refine .nilE ⟨rfl,rfl⟩ ?_ ?_
       ·exact⟨rfl,rfl,rfl,rfl,rfl,rfl,rfl,rfl,rfl,rfl,rfl,trivial⟩
       exact(.refl _)
      rcases oi h with⟨c33,h⟩|⟨c33,h⟩
      ·refine .a 5 ?_;obtain⟨g34,h⟩:=AC h;refine .a 1 ?_;refine .store 1 rfl rfl rfl rfl rfl rfl (.cast (.lidx x14 true g34.1 g34.2 .here) (by omega)) rfl rfl Bw rfl ?_;refine .coe 3 (y':=(BL n3 (AU x12 x14 true).length)) rfl (fun _ _ h=>Ad h) ?_;refine .coe 60 (y':=(BL n3 (AU x12 x14 true).length)) rfl (fun _ _ h=>Ad h) ?_;refine .a 1 ?_;refine .nK [1,3,5,29,30,31] ?_;refine .eK [1,3,5,29,30,31] ?_;exact⟨(AU x12 x14 true),true,rfl,rfl,h⟩
      refine .a 5 ?_;refine .nK [1,3,5,6,29,30,31,40,41,42] ?_;exact⟨kq25,Nat.lt_succ_self _,(AG (x23+(1:Int))),rfl,rfl,by rw[hrec24];exact h⟩
     refine .a 1 ?_;refine .eK [1,3,5,29,30,31] ?_;exact⟨x12,b13,rfl,rfl,h⟩
    rintro _ _ ⟨x18,b19,rfl,rfl,h⟩;rw[EX.eq_1]at h;refine .a 3 ?_;refine .nK [1,3,5,29,30,31] ?_;exact⟨kq16,Nat.lt_succ_self _,x18,b19,(AG (x14+(1:Int))),rfl,rfl,by rw[hrec15];exact h⟩
   refine .a 1 ?_;refine .eK [1,3,5] ?_;exact⟨kq10,Nat.lt_succ_self _,x12,b13,rfl,rfl,by rw[hrec9];exact h⟩
  refine .a 1 ?_;refine .eH [3] (H':=[(Z9 n3 x7)]) (.cons 1 rfl (.nil _)) ?_;exact⟨x7,rfl,rfl,h⟩
 rintro _ _ ⟨x6,rfl,rfl,h⟩;rw[Mu.eq_1]at h;refine .a 4 ?_;refine .nK [2] ?_;refine .freezeS 0 [(2,(.fz 1 (x6.map AD)))] rfl ⟨Aj rfl,trivial⟩ ?_;refine .rK [2] ?_;have hr:=Option.some.inj h;subst hr;exact⟨[(.fz 1 (x6.map AD))],⟨rfl,rfl,trivial⟩,rfl⟩
def VY (k:Nat) (p0:(List Int)):Option (List Int):=
 if(([]:List Int)++p0).length*8≤140737488355328 then some ((([]:List Int)++p0))
 else none
def VQ (k:Nat) (p0:(List Int)):Option (List Int):=
 if(([]:List Int)++p0).length*8≤140737488355328 then some ((([]:List Int)++p0))
 else none
theorem Rn {k:Nat} {p0:(List Int)} {r:(List Int)} (h:VY k p0=some r):AY Tryz.prog 98 [(.fz 1 (p0.map AB))] (Ce r):=by
 rw[VY.eq_1]at h;refine AY.intro (res:=[.tmp 2]) Tryz.func98 rfl rfl rfl (Nat.le_of_ble_eq_true rfl) ?_;refine .a 8 ?_;refine .nilFz rfl 4 rfl (by decide) rfl rfl Tryz.underlying40 fun gb2 hgb2=>?_;refine .nK [0,4] ?_;cases gb2
 ·refine .condF rfl ?_;refine .a 3 ?_;refine .lit (Z:=(AB (0:Int))) (xs:=(([]:List Int).map AB)) (qs:=[]) rfl 5 rfl (by decide) rfl trivial Tryz.underlying40 Bb Fj DT rfl (by decide) (An (z:=1) [] rfl trivial) rfl fun n3=>?_;refine .a 1 ?_;obtain⟨g5,h⟩:=AC h;refine .appendL (l:=([]:List Int)) (m:=p0) 0 7 rfl (by decide) rfl rfl rfl rfl rfl CS.fz Tryz.underlying40 Tryz.underlying40 Bb KP Fj rfl g5 (by decide) fun n4=>?_;refine .a 1 ?_;refine .nK [2] ?_;refine .freezeS 0 [(2,(Df (([]:List Int)++p0)))] rfl ⟨Aj rfl,trivial⟩ ?_;refine .rK [2] ?_;cases h;exact⟨[(Df (([]:List Int)++p0))],⟨rfl,rfl,trivial⟩,rfl⟩
 have hn6:p0=[]:=List.map_eq_nil_iff.1 (hgb2 rfl);have h:(some ([]))=some r:=by simpa [hn6]using h
 refine .condT rfl ?_;refine .a 3 ?_;refine .nK [2] ?_;refine .coeC 2 (y':=(Df ([]:List Int))) rfl Hi.nil ?_;refine .rK [2] ?_;cases h;exact⟨[(Df ([]:List Int))],⟨rfl,rfl,trivial⟩,rfl⟩
theorem R2 {k:Nat} {p0:(List Int)} {r:(List Int)} (h:VQ k p0=some r) {T0:Aa}:Aq Tryz.prog 98 [(.fz 1 (p0.map AB))] (T0) (fun x H'=>∃ m,x=.own m 0 r.length∧Bd ((m,.mem (.ar 1 (r.map AB)))::T0) H'):=by
 rw[VQ.eq_1]at h;refine Aq.intro (res:=[.tmp 2]) Tryz.func98 rfl rfl rfl (Nat.le_of_ble_eq_true rfl) ?_;refine .a 8 ?_;refine .nilFz rfl 4 rfl (by decide) rfl rfl Tryz.underlying40 fun gb2 hgb2=>?_;refine .nK [0,4] ?_;cases gb2
 ·refine .condF rfl ?_;refine .a 3 ?_;refine .lit (Z:=(AB (0:Int))) (xs:=(([]:List Int).map AB)) (qs:=[]) rfl 5 rfl (by decide) rfl trivial Tryz.underlying40 Bb Fj DT rfl (by decide) (An (z:=1) [] rfl trivial) rfl fun n4=>?_;refine .a 1 ?_;obtain⟨g6,h⟩:=AC h;refine .appendL (l:=([]:List Int)) (m:=p0) 0 7 rfl (by decide) rfl rfl rfl rfl rfl CS.fz Tryz.underlying40 Tryz.underlying40 Bb KP Fj rfl g6 (by decide) fun n5=>?_;refine .a 1 ?_;refine .nK [2] ?_;refine .rK [2] ?_;cases h;exact⟨[(BL n5 (([]:List Int)++p0).length)],⟨rfl,rfl,trivial⟩,n5,rfl,(.cons 0 rfl (.refl _))⟩
 have hn7:p0=[]:=List.map_eq_nil_iff.1 (hgb2 rfl);have h:(some ([]))=some r:=by simpa [hn7]using h
 refine .condT rfl ?_;refine .a 3 ?_;refine .nK [2] ?_;refine .nilOwn 2 1 rfl fun n3=>?_;refine .rK [2] ?_;cases h;exact⟨[(BL n3 ([]:List Int).length)],⟨rfl,rfl,trivial⟩,n3,rfl,(.cons 0 rfl (.refl _))⟩
end Go.Avl.T8
namespace Go.Avl.T8
open Go Go.RowKit Go.Proofs Go.Avl
set_option linter.unusedVariables false
set_option maxRecDepth 100000
set_option maxHeartbeats 4000000
set_option linter.unusedSimpArgs false
attribute [local irreducible] AW AO AQ AY Aq AH
def Lv (k:Nat) (p0:AI) (t5:(List Int)) (x8:(List (List Int))):Option AI:=
 some ((AI.mk p0.f0 x8 t5))
def Mf (k:Nat) (rec12:((List (List Int))→Int→Option AI)) (x11:Int) (x16:(List (List Int))):Option AI:=
 rec12 x16 (AG (x11+(1:Int)))
def Jy (k:Nat) (rec12:((List (List Int))→Int→Option AI)) (x10:(List (List Int))) (x11:Int) (x21:(List Int)):Option AI:=
 if(x10++([x21]:List (List Int))).length*24≤140737488355328 then Mf k rec12 x11 (x10++([x21]:List (List Int)))
 else none
def G9 (k:Nat) (rec27:((List Int)→Int→Option AI)) (x26:Int) (x30:(List Int)):Option AI:=
 rec27 x30 (AG (x26+(1:Int)))
def EL (k:Nat) (rec12:((List (List Int))→Int→Option AI)) (t4:(List Bool)) (x10:(List (List Int))) (x11:Int) (t18:(List Int)):Nat→(List Int)→Int→Option AI
 | 0,_,_=>none
 | j+1,x25,x26=>
   if x26<(t18.length:Int)then if 0≤x26∧x26<(x25.length:Int)then Option.bind (α:=Bool) (if(0:Int)≤(AA x25 x26)then if(AA x25 x26)<(t4.length:Int)then if 0≤(AA x25 x26)∧(AA x25 x26)<(t4.length:Int)then some (!(AA t4 (AA x25 x26)))
   else none
   else some (false)
   else some (false)) fun b32=>
   if b32=true then if 0≤x26∧x26<(x25.length:Int)then G9 k (EL k rec12 t4 x10 x11 t18 j) x26 (AU x25 x26 (-1:Int))
   else none
   else G9 k (EL k rec12 t4 x10 x11 t18 j) x26 x25
   else none
   else Jy k rec12 x10 x11 x25
def Ei (k:Nat) (p0:AI) (t4:(List Bool)) (t5:(List Int)):Nat→(List (List Int))→Int→Option AI
 | 0,_,_=>none
 | j+1,x10,x11=>
   if x11<(p0.f1.length:Int)then if 0≤x11∧x11<(p0.f1.length:Int)then(VQ k (AA p0.f1 x11)).bind fun t18=>
   EL k (Ei k p0 t4 t5 j) t4 x10 x11 t18 k t18 (0:Int)
   else none
   else Lv k p0 t5 x10
def aK (k:Nat) (p0:AI):Option AI:=
 (Za k p0).bind fun t4=>
 (VY k p0.f2).bind fun t5=>
 Ei k p0 t4 t5 k ([]:List (List Int)) (0:Int)
theorem TW {k:Nat} {p0:AI} {r:AI} (h:aK k p0=some r):AY Tryz.prog 74 [(Ak p0)] (Ak r):=by
 rw[aK.eq_1]at h;refine AY.intro (res:=[.cell 2 42]) Tryz.func74 rfl rfl rfl (Nat.le_of_ble_eq_true rfl) ?_;refine .sr ?_;refine .box rfl 1 rfl (by decide) rfl rfl rfl fun n2=>?_;refine .alloc rfl 2 rfl (by decide) rfl CY BV fun n3=>?_;refine .nS [1,2] [1,0] ?_;refine .a 3 ?_;obtain⟨t4,et4,h⟩:=ob h;refine .callS [(Ak p0)] (.fz 1 (t4.map AD)) 11 rfl (by decide) cC rfl rfl rfl ⟨rfl,rfl,trivial⟩ (SC et4) ?_;refine .a 3 ?_;obtain⟨t5,et5,h⟩:=ob h;refine .regEff (by rfl) (by decide+kernel) (fun (σ:Nat→Nat)=>([(.ptr n2 0),(.ar 1 (p0.f0.toList.map AK)),(.ptr n2 257),(Df p0.f2),(.fz 1 (t5.map AB)),(SA (p0.f0.toList.map AK) t5),(.ptr (σ 6) 0),(.fl undef)]:List AV)) (fun (L:Nat→Bool) (σ:Nat→Nat)=>((n2,(.mem (Ak p0)))::(BA n3 ((Vector.replicate 256 (0:Int)).toList.map AK))::(bif L 6 then(bif L 7 then(((σ 6),(.mem (SA (p0.f0.toList.map AK) t5)))::[])else(((σ 6),(.mem (Z0 ((Vector.replicate 256 (0:Int)).toList.map AK))))::[]))else([])):Aa)) [(1,(.ptr n2 0)),(2,(.ptr n3 0)),(3,(.fz 1 (t4.map AD)))] ⟨rfl,rfl,rfl,trivial⟩ (fun _=>rfl) (fun σ=>(.refl _)) ⟨?_,?_,?_,?_,?_,?_,?_,?_,trivial⟩ (fun σ=>[(1,(.ptr n2 0)),(2,(.ptr n3 0)),(3,(.fz 1 (t4.map AD))),(4,(.ptr (σ 6) 0))]) (fun σ=>((n2,(.mem (Ak p0)))::(BA n3 ((Vector.replicate 256 (0:Int)).toList.map AK))::((σ 6),(.mem (SA (p0.f0.toList.map AK) t5)))::[])) (fun σ=>⟨rfl,rfl,rfl,rfl,trivial⟩) (fun σ=>.refl _) (fun σ=>?_)
 ·refine .calm (fun _ _=>rfl) fun L σ hc hi hd=>?_;refine .a 1 ?_;exact .nE (d:=12) rfl ⟨⟨12,_,rfl,rfl,rfl⟩,.refl _⟩
 ·refine .calm (fun _ _=>rfl) fun L σ hc hi hd=>?_;refine .a 1 ?_;exact .nE (d:=13) rfl ⟨⟨13,_,rfl,rfl,rfl⟩,.refl _⟩
 ·refine .calm (fun _ _=>rfl) fun L σ hc hi hd=>?_;refine .a 1 ?_;exact .nE (d:=14) rfl ⟨⟨14,_,rfl,rfl,rfl⟩,.refl _⟩
 ·refine .calm (fun _ _=>rfl) fun L σ hc hi hd=>?_;refine .a 1 ?_;exact .nE (d:=15) rfl ⟨⟨15,_,rfl,rfl,rfl⟩,.refl _⟩
 ·refine .calm (fun _ _=>rfl) fun L σ hc hi hd=>?_;refine .wK [15] ?_;refine .callS [(Df p0.f2)] (.fz 1 (t5.map AB)) 16 rfl (by decide) Zm rfl rfl rfl ⟨rfl,rfl,trivial⟩ (Rn et5) ?_;exact .nE (d:=16) rfl ⟨⟨16,_,rfl,rfl,rfl⟩,.refl _⟩
 ·refine .calm (fun _ _=>rfl) fun L σ hc hi hd=>?_;refine .wK [13,16] ?_;refine .c (x:=(SA (p0.f0.toList.map AK) t5)) (.build (qs:=[(0,(.ar 1 (p0.f0.toList.map AK))),(2,(.fz 1 (t5.map AB)))]) rfl ⟨rfl,rfl,rfl,rfl,rfl,rfl,trivial⟩ Tryz.underlying42 rfl CY BV (.cons rfl rfl (Ax _ _) (Ax _ _) (.cast (.fld0 .here) rfl) (.cons rfl rfl rfl rfl (.cast (.fldS (.fldS (.fld0 .here))) rfl) .nil)) rfl) ?_;exact .nE (d:=17) rfl ⟨⟨17,_,rfl,rfl,rfl⟩,.refl _⟩
 ·intro L σ hc hi hd;have m7:L 7=false:=hc.neg (i:=6) (j:=7) rfl (by rfl) hi;refine .heq (H':=((n2,(.mem (Ak p0)))::(BA n3 ((Vector.replicate 256 (0:Int)).toList.map AK))::[])) (by first|rfl|simp only[hi,m7,cond_true,cond_false]) ?_;refine .wK [] ?_;refine .alloc rfl 4 rfl (by decide) rfl CY BV fun n6=>?_;have a6:A5 L 6 6=true:=rfl;have a7:A5 L 6 7=false:=m7;have u6:Cf σ 6 n6 6=n6:=rfl;exact .nE (d:=4) rfl ⟨(Cf σ 6 n6),(fun j hj=>match j,hj with |0,_=>rfl|1,_=>rfl|2,_=>rfl|3,_=>rfl|4,_=>rfl|5,_=>rfl|6,hj=>Bool.noConfusion (hj.symm.trans hi)|7,_=>rfl|_+8,_=>rfl),(fun d' hd'=>⟨_,rfl,by cases hd';rfl⟩),.of_eq (B:=((n2,(.mem (Ak p0)))::(BA n3 ((Vector.replicate 256 (0:Int)).toList.map AK))::(BA n6 ((Vector.replicate 256 (0:Int)).toList.map AK))::[])) (by simp only[a6,a7,u6,cond_true,cond_false]) (.cons 1 rfl (.cons 1 rfl (.cons 0 rfl (.refl _))))⟩
 ·intro L σ hc hi hd;have y6:L 6=true:=BC hd (i:=6) (by rfl);refine .heq (H':=((n2,(.mem (Ak p0)))::(BA n3 ((Vector.replicate 256 (0:Int)).toList.map AK))::((σ 6),(.mem (Z0 ((Vector.replicate 256 (0:Int)).toList.map AK))))::[])) (by first|rfl|simp only[hi,y6,cond_true,cond_false]) ?_;refine .wK [4,17] ?_;refine .store 2 rfl rfl rfl rfl rfl rfl (.cast .here rfl) rfl rfl BQ rfl ?_;have a6:A5 L 7 6=true:=y6;have a7:A5 L 7 7=true:=rfl;exact .n0 ⟨σ,(fun _ _=>rfl),(fun d' hd'=>by cases hd'),.of_eq (B:=((n2,(.mem (Ak p0)))::(BA n3 ((Vector.replicate 256 (0:Int)).toList.map AK))::((σ 6),(.mem (SA (p0.f0.toList.map AK) t5)))::[])) (by simp only[a6,a7,cond_true,cond_false]) (.refl _)⟩
 generalize σ 6=n6;refine .nK [1,2,3,4] ?_;refine .seq_mid (fun ρ H=>∃ (n7:Nat) (x8:(List (List Int))),ρ=[(2,(.ptr n3 0)),(4,(.ptr n6 0))]∧H=[(BA n3 ((Vector.replicate 256 (0:Int)).toList.map AK)),(N8 n6 (p0.f0.toList.map AK) n7 x8.length t5),(Z5 n7 x8)]∧Lv k p0 t5 x8=some r) ?_ ?_
 ·refine .a 6 ?_;refine .nS [2,3,4,19,20,21] [1,2] ?_;refine .a 1 ?_;refine .nilOwnFld 1 1 (fun n39=>(.st [(256,(.ar 1 (p0.f0.toList.map AK))),(1,(.own n39 0 0)),(1,(.fz 1 (t5.map AB)))])) rfl (fun _=>(.cast (.fldS (.fld0 .here)) rfl)) (fun _=>rfl) (fun _=>rfl) fun n39=>?_;refine .wH [2,3,4,19,20,21] (H':=[(BA n3 ((Vector.replicate 256 (0:Int)).toList.map AK)),(N8 n6 (p0.f0.toList.map AK) n39 ([]:List (List Int)).length t5),(Z5 n39 ([]:List (List Int)))]) (.cons 1 rfl (.cons 1 rfl (.cons 0 rfl (.nil _)))) ?_;refine .loop (fun kq ρ H=>∃ (n9:Nat) (x10:(List (List Int))) (x11:Int),ρ=[(2,(.ptr n3 0)),(3,(.fz 1 (t4.map AD))),(4,(.ptr n6 0)),(19,(.fz 1 (p0.f1.map Ce))),(20,(AB (p0.f1.length:Int))),(21,(AB x11))]∧H=[(BA n3 ((Vector.replicate 256 (0:Int)).toList.map AK)),(N8 n6 (p0.f0.toList.map AK) n9 x10.length t5),(Z5 n9 x10)]∧Ei k p0 t4 t5 kq x10 x11=some r) k ⟨n39,([]:List (List Int)),(0:Int),rfl,rfl,h⟩ ?_;rintro kq13 _ _ ⟨n9,x10,x11,rfl,rfl,h⟩
  cases kq13 with
  | zero=>rw[Ei.eq_1]at h;cases h
  | succ kq13=>
  rw[Ei.eq_2]at h;generalize hrec12:Ei k p0 t4 t5 kq13=rec12 at h;refine .a 5 ?_;rcases oi h with⟨c14,h⟩|⟨c14,h⟩
  ·refine .a 1 ?_;refine .sK [2,3,4,19,20,21] ?_;refine .seq_mid (fun ρ H=>∃ (n15:Nat) (x16:(List (List Int))),ρ=[(2,(.ptr n3 0)),(3,(.fz 1 (t4.map AD))),(4,(.ptr n6 0)),(19,(.fz 1 (p0.f1.map Ce))),(20,(AB (p0.f1.length:Int))),(21,(AB x11))]∧H=[(BA n3 ((Vector.replicate 256 (0:Int)).toList.map AK)),(N8 n6 (p0.f0.toList.map AK) n15 x16.length t5),(Z5 n15 x16)]∧Mf k rec12 x11 x16=some r) ?_ ?_
   ·refine .a 3 ?_;obtain⟨g17,h⟩:=AC h;refine .a 7 ?_;obtain⟨t18,et18,h⟩:=ob h;refine .callH [(Df (AA p0.f1 x11))] [(BA n3 ((Vector.replicate 256 (0:Int)).toList.map AK)),(N8 n6 (p0.f0.toList.map AK) n9 x10.length t5),(Z5 n9 x10)] _ rfl rfl rfl 26 rfl (by decide) Zm ⟨rfl,rfl,trivial⟩ (.refl _) (R2 et18) ?_;rintro _ _ ⟨n20,rfl,hs19⟩;refine .wH [2,3,4,6,19,20,21,25,26] hs19 ?_;refine .a 1 ?_;refine .nS [2,3,4,7,19,20,21] [1,2,3,0] ?_;refine .seq_mid (fun ρ H=>∃ (x21:(List Int)),ρ=[(2,(.ptr n3 0)),(3,(.fz 1 (t4.map AD))),(4,(.ptr n6 0)),(7,(.own n20 0 x21.length)),(19,(.fz 1 (p0.f1.map Ce))),(20,(AB (p0.f1.length:Int))),(21,(AB x11))]∧H=[(BA n3 ((Vector.replicate 256 (0:Int)).toList.map AK)),(N8 n6 (p0.f0.toList.map AK) n9 x10.length t5),(Z5 n9 x10),(n20,(Z3 x21))]∧Jy k rec12 x10 x11 x21=some r) ?_ ?_
    ·refine .a 7 ?_;refine .wK [2,3,4,7,19,20,21,27,28,29] ?_;refine .loop (fun kq ρ H=>∃ (x25:(List Int)) (x26:Int),ρ=[(2,(.ptr n3 0)),(3,(.fz 1 (t4.map AD))),(4,(.ptr n6 0)),(7,(.own n20 0 x25.length)),(19,(.fz 1 (p0.f1.map Ce))),(20,(AB (p0.f1.length:Int))),(21,(AB x11)),(27,(.own n20 0 x25.length)),(28,(AB (t18.length:Int))),(29,(AB x26))]∧H=[(BA n3 ((Vector.replicate 256 (0:Int)).toList.map AK)),(N8 n6 (p0.f0.toList.map AK) n9 x10.length t5),(Z5 n9 x10),(n20,(Z3 x25))]∧EL k rec12 t4 x10 x11 t18 kq x25 x26=some r) k ⟨t18,(0:Int),rfl,rfl,h⟩ ?_;rintro kq28 _ _ ⟨x25,x26,rfl,rfl,h⟩
     cases kq28 with
     | zero=>rw[EL.eq_1]at h;cases h
     | succ kq28=>
     rw[EL.eq_2]at h;generalize hrec27:EL k rec12 t4 x10 x11 t18 kq28=rec27 at h;refine .a 5 ?_;rcases oi h with⟨c29,h⟩|⟨c29,h⟩
     ·refine .a 1 ?_;refine .sK [2,3,4,7,19,20,21,27,28,29] ?_;refine .seq_mid (fun ρ H=>∃ (x30:(List Int)),ρ=[(2,(.ptr n3 0)),(3,(.fz 1 (t4.map AD))),(4,(.ptr n6 0)),(7,(.own n20 0 x30.length)),(19,(.fz 1 (p0.f1.map Ce))),(20,(AB (p0.f1.length:Int))),(21,(AB x11)),(27,(.own n20 0 x30.length)),(28,(AB (t18.length:Int))),(29,(AB x26))]∧H=[(BA n3 ((Vector.replicate 256 (0:Int)).toList.map AK)),(N8 n6 (p0.f0.toList.map AK) n9 x10.length t5),(Z5 n9 x10),(n20,(Z3 x30))]∧G9 k rec27 x26 x30=some r) ?_ ?_
      ·refine .a 4 ?_;obtain⟨g31,h⟩:=AC h;refine .c (.idxO 3 rfl rfl rfl rfl g31 Tryz.underlying40 Bb) ?_;refine .c (.load 3 rfl rfl rfl (.cast (.lidx x26 g31.1 g31.2 .here) (by omega)) Rl Bb) ?_;refine .ag rfl rfl ?_;refine .ag rfl rfl ?_;refine .nK [2,3,4,7,8,9,19,20,21,27,28,29] ?_;refine .seq ?_;obtain⟨b32,q33,h⟩:=ob h;refine .regM [(2,(.ptr n3 0)),(3,(.fz 1 (t4.map AD))),(4,(.ptr n6 0)),(7,(.own n20 0 x25.length)),(8,(AB x26)),(19,(.fz 1 (p0.f1.map Ce))),(20,(AB (p0.f1.length:Int))),(21,(AB x11)),(27,(.own n20 0 x25.length)),(28,(AB (t18.length:Int))),(29,(AB x26)),(48,(AD b32))] [(BA n3 ((Vector.replicate 256 (0:Int)).toList.map AK)),(N8 n6 (p0.f0.toList.map AK) n9 x10.length t5),(Z5 n9 x10),(n20,(Z3 x25))] ?_ ?_
       ·refine .a 3 ?_;rcases oi q33 with⟨c34,q33⟩|⟨c34,q33⟩
        ·refine .a 6 ?_;rcases oi q33 with⟨c35,q33⟩|⟨c35,q33⟩
         ·refine .a 2 ?_;obtain⟨g36,q33⟩:=AC q33;refine .a 4 ?_;cases q33;refine .nilE ⟨rfl,rfl⟩ ?_ ?_
          ·exact⟨rfl,rfl,rfl,rfl,rfl,rfl,rfl,rfl,rfl,rfl,rfl,rfl,trivial⟩
          exact(.refl _)
         refine .a 6 ?_;cases q33;refine .nilE ⟨rfl,rfl⟩ ?_ ?_
         ·exact⟨rfl,rfl,rfl,rfl,rfl,rfl,rfl,rfl,rfl,rfl,rfl,rfl,trivial⟩
         exact(.refl _)
        refine .a 12 ?_;cases q33;refine .nilE ⟨rfl,rfl⟩ ?_ ?_
        ·exact⟨rfl,rfl,rfl,rfl,rfl,rfl,rfl,rfl,rfl,rfl,rfl,rfl,trivial⟩
        exact(.refl _)
       rcases oi h with⟨c37,h⟩|⟨c37,h⟩
       ·refine .a 4 ?_;obtain⟨g38,h⟩:=AC h;refine .a 1 ?_;refine .store 3 rfl rfl rfl rfl rfl rfl (.cast (.lidx x26 (-1:Int) g38.1 g38.2 .here) (by omega)) rfl rfl Bb rfl ?_;refine .coe 7 (y':=(BL n20 (AU x25 x26 (-1:Int)).length)) rfl (fun _ _ h=>Ad h) ?_;refine .coe 27 (y':=(BL n20 (AU x25 x26 (-1:Int)).length)) rfl (fun _ _ h=>Ad h) ?_;refine .coe 49 (y':=(BL n20 (AU x25 x26 (-1:Int)).length)) rfl (fun _ _ h=>Ad h) ?_;refine .nK [2,3,4,7,19,20,21,27,28,29] ?_;exact⟨(AU x25 x26 (-1:Int)),rfl,rfl,h⟩
       refine .a 1 ?_;refine .sK [2,3,4,7,19,20,21,27,28,29] ?_;exact⟨x25,rfl,rfl,h⟩
      rintro _ _ ⟨x30,rfl,rfl,h⟩;rw[G9.eq_1]at h;refine .a 3 ?_;refine .nK [2,3,4,7,19,20,21,27,28,29] ?_;exact⟨kq28,Nat.lt_succ_self _,x30,(AG (x26+(1:Int))),rfl,rfl,by rw[hrec27];exact h⟩
     refine .a 1 ?_;refine .eK [2,3,4,7,19,20,21] ?_;exact⟨x25,rfl,rfl,h⟩
    rintro _ _ ⟨x21,rfl,rfl,h⟩;rw[Jy.eq_1]at h;refine .a 4 ?_;refine .freezeS 3 [(7,(.fz 1 (x21.map AB))),(55,(.fz 1 (x21.map AB)))] rfl ⟨Aj rfl,Aj rfl,trivial⟩ ?_;refine .lit (Z:=(.fl (.slice none 0 0))) (xs:=(([x21]:List (List Int)).map Ce)) (qs:=[(0,(.fz 1 (x21.map AB)))]) rfl 56 rfl (by decide) rfl ⟨rfl,rfl,rfl,trivial⟩ Tryz.underlying39 HI KT Ng rfl (by decide) (An (z:=1) [(.fz 1 (x21.map AB))] rfl ⟨⟨rfl,rfl⟩,trivial⟩) rfl fun n22=>?_;obtain⟨g24,h⟩:=AC h;refine .appendL (l:=x10) (m:=([x21]:List (List Int))) 3 57 rfl (by decide) rfl rfl rfl rfl rfl (CS.ownL (f:=Ce) (l:=([x21]:List (List Int))) 0 rfl) Tryz.underlying39 Tryz.underlying39 HI Ud KT rfl g24 (by decide) fun n23=>?_;refine .a 1 ?_;refine .store 2 rfl rfl rfl rfl rfl rfl (.cast (.fldS (.fld0 .here)) rfl) rfl rfl KM rfl ?_;refine .nS [2,3,4,19,20,21] [1,2,3] ?_;exact⟨n23,(x10++([x21]:List (List Int))),rfl,rfl,h⟩
   rintro _ _ ⟨n15,x16,rfl,rfl,h⟩;rw[Mf.eq_1]at h;refine .a 3 ?_;refine .nK [2,3,4,19,20,21] ?_;exact⟨kq13,Nat.lt_succ_self _,n15,x16,(AG (x11+(1:Int))),rfl,rfl,by rw[hrec12];exact h⟩
  refine .a 1 ?_;refine .eK [2,4] ?_;exact⟨n9,x10,rfl,rfl,h⟩
 rintro _ _ ⟨n7,x8,rfl,rfl,h⟩;rw[Lv.eq_1]at h;refine .sr ?_;refine .freezeFld (X':=(PP (p0.f0.toList.map AK) x8 t5)) (els':=(x8.map Ce)) 2 1 rfl rfl (.cast (.fldS (.fld0 .here)) rfl) (by simp) (by rw[Be]) rfl rfl (by decide) ?_;refine .a 1 ?_;refine .store 0 rfl rfl rfl rfl rfl rfl (.cast .here rfl) rfl rfl BQ rfl ?_;refine .nS [2] [0] ?_;refine .rK [2] ?_;cases h;exact⟨[(Ak (AI.mk p0.f0 x8 t5))],⟨⟨_,0,rfl,rfl,E9,BQ⟩,trivial⟩,rfl⟩
def M1 (k:Nat) (p0:AI) (x12:(List (List Int))) (x14:(List Int)):Option AI:=
 some ((AI.mk p0.f0 x12 x14))
def Me (k:Nat) (rec23:((List Int)→(List (List Int))→(List Int)→(List Int)→Int→Option AI)) (x22:Int) (x26:(List Int)) (x28:(List (List Int))) (x30:(List Int)) (x32:(List Int)):Option AI:=
 rec23 x26 x28 x30 x32 (AG (x22+(1:Int)))
def Jq (k:Nat) (rec23:((List Int)→(List (List Int))→(List Int)→(List Int)→Int→Option AI)) (p0:AI) (x17:(List (List Int))) (x19:(List Int)) (x22:Int) (x37:(List Int)) (x39:(List Int)) (x41:(List Int)):Option AI:=
 if(x17++([x41]:List (List Int))).length*24≤140737488355328 then if 0≤x22∧x22<(x39.length:Int)then if 0≤(AA x39 x22)∧(AA x39 x22)<(p0.f2.length:Int)then if(x19++([(AA p0.f2 (AA x39 x22))]:List Int)).length*8≤140737488355328 then Me k rec23 x22 x37 (x17++([x41]:List (List Int))) (x19++([(AA p0.f2 (AA x39 x22))]:List Int)) x39
 else none
 else none
 else none
 else none
def J8 (k:Nat) (rec58:((List Int)→(List Int)→(List Int)→Int→Option AI)) (x56:(List Int)) (x57:Int) (x62:(List Int)) (x64:(List Int)) (x65:Int):Option AI:=
 if(x56++([x65]:List Int)).length*8≤140737488355328 then rec58 x62 x64 (x56++([x65]:List Int)) (AG (x57+(1:Int)))
 else none
def I2 (k:Nat) (rec58:((List Int)→(List Int)→(List Int)→Int→Option AI)) (p0:AI) (x21:(List Int)) (x22:Int) (x56:(List Int)) (x57:Int) (x62:(List Int)) (x64:(List Int)):Option AI:=
 if(0:Int)≤(AA (AA p0.f1 (AA x21 x22)) x57)then if 0≤(AA (AA p0.f1 (AA x21 x22)) x57)∧(AA (AA p0.f1 (AA x21 x22)) x57)<(x62.length:Int)then J8 k rec58 x56 x57 x62 x64 (AA x62 (AA (AA p0.f1 (AA x21 x22)) x57))
 else none
 else J8 k rec58 x56 x57 x62 x64 (AA (AA p0.f1 (AA x21 x22)) x57)
def Ee (k:Nat) (rec23:((List Int)→(List (List Int))→(List Int)→(List Int)→Int→Option AI)) (p0:AI) (x17:(List (List Int))) (x19:(List Int)) (x21:(List Int)) (x22:Int):Nat→(List Int)→(List Int)→(List Int)→Int→Option AI
 | 0,_,_,_,_=>none
 | j+1,x52,x54,x56,x57=>
   if x57<((AA p0.f1 (AA x21 x22)).length:Int)then if 0≤x57∧x57<((AA p0.f1 (AA x21 x22)).length:Int)then Option.bind (α:=Bool) (if(0:Int)≤(AA (AA p0.f1 (AA x21 x22)) x57)then if 0≤(AA (AA p0.f1 (AA x21 x22)) x57)∧(AA (AA p0.f1 (AA x21 x22)) x57)<(x52.length:Int)then some (decide ((AA x52 (AA (AA p0.f1 (AA x21 x22)) x57))=(-1:Int)))
   else none
   else some (false)) fun b71=>
   if b71=true then if 0≤(AA (AA p0.f1 (AA x21 x22)) x57)∧(AA (AA p0.f1 (AA x21 x22)) x57)<(x52.length:Int)then if(x54++([(AA (AA p0.f1 (AA x21 x22)) x57)]:List Int)).length*8≤140737488355328 then I2 k (Ee k rec23 p0 x17 x19 x21 x22 j) p0 x21 x22 x56 x57 (AU x52 (AA (AA p0.f1 (AA x21 x22)) x57) (x54.length:Int)) (x54++([(AA (AA p0.f1 (AA x21 x22)) x57)]:List Int))
   else none
   else none
   else I2 k (Ee k rec23 p0 x17 x19 x21 x22 j) p0 x21 x22 x56 x57 x52 x54
   else none
   else Jq k rec23 p0 x17 x19 x22 x52 x54 x56
def Fe (k:Nat) (p0:AI):Nat→(List Int)→(List (List Int))→(List Int)→(List Int)→Int→Option AI
 | 0,_,_,_,_,_=>none
 | j+1,x15,x17,x19,x21,x22=>
   if x22<(x21.length:Int)then if 0≤x22∧x22<(x21.length:Int)then if 0≤(AA x21 x22)∧(AA x21 x22)<(p0.f1.length:Int)then if 0≤((AA p0.f1 (AA x21 x22)).length:Int)∧((AA p0.f1 (AA x21 x22)).length:Int)*(8:Int)≤140737488355328∧((AA p0.f1 (AA x21 x22)).length:Int)≤9223372036854775807 then if 0≤x22∧x22<(x21.length:Int)then if 0≤(AA x21 x22)∧(AA x21 x22)<(p0.f1.length:Int)then Ee k (Fe k p0 j) p0 x17 x19 x21 x22 k x15 x21 ([]:List Int) (0:Int)
   else none
   else none
   else none
   else none
   else none
   else M1 k p0 x17 x19
def I1 (k:Nat) (p0:AI) (x6:(List Int)):Option AI:=
 if(p0.f1.length:Int)=(0:Int)then some ((AI.mk p0.f0 ([]:List (List Int)) ([]:List Int)))
 else if 0≤(0:Int)∧(0:Int)<(x6.length:Int)then Fe k p0 k (AU x6 (0:Int) (0:Int)) ([]:List (List Int)) ([]:List Int) ([(0:Int)]:List Int) (0:Int)
 else none
def Fg (k:Nat) (p0:AI):Nat→(List Int)→Int→Option AI
 | 0,_,_=>none
 | j+1,x82,x83=>
   if x83<((List.replicate (p0.f1.length:Int).toNat (0:Int)).length:Int)then if 0≤x83∧x83<(x82.length:Int)then(Fg k p0 j) (AU x82 x83 (-1:Int)) (AG (x83+(1:Int)))
   else none
   else I1 k p0 x82
def XK (k:Nat) (p0:AI):Option AI:=
 if 0≤(p0.f1.length:Int)∧(p0.f1.length:Int)*(8:Int)≤140737488355328∧(p0.f1.length:Int)≤9223372036854775807 then Fg k p0 k (List.replicate (p0.f1.length:Int).toNat (0:Int)) (0:Int)
 else none
theorem NH {k:Nat} {p0:AI} {r:AI} (h:XK k p0=some r):AY Tryz.prog 73 [(Ak p0)] (Ak r):=by
 rw[XK.eq_1]at h;refine AY.intro (res:=[.cell 2 42]) Tryz.func73 rfl rfl rfl (Nat.le_of_ble_eq_true rfl) ?_;refine .sr ?_;refine .box rfl 1 rfl (by decide) rfl rfl rfl fun n2=>?_;refine .alloc rfl 2 rfl (by decide) rfl CY BV fun n3=>?_;refine .nS [1,2] [1,0] ?_;refine .a 5 ?_;obtain⟨g5,h⟩:=AC h;refine .makeL (f:=AB) (0:Int) rfl 14 rfl (by decide) rfl rfl rfl Tryz.underlying40 Bb KP Fj DT rfl g5 fun n4=>?_;refine .a 1 ?_;refine .nS [1,2,3] [1,2,0] ?_;refine .seq_mid (fun ρ H=>∃ (x6:(List Int)),ρ=[(1,(.ptr n2 0)),(2,(.ptr n3 0)),(3,(.own n4 0 x6.length))]∧H=[(n2,(.mem (Ak p0))),(BA n3 ((Vector.replicate 256 (0:Int)).toList.map AK)),(n4,(Z3 x6))]∧I1 k p0 x6=some r) ?_ ?_
 ·refine .a 7 ?_;refine .wK [1,2,3,16,17] ?_;refine .loop (fun kq ρ H=>∃ (x82:(List Int)) (x83:Int),ρ=[(1,(.ptr n2 0)),(2,(.ptr n3 0)),(3,(.own n4 0 x82.length)),(16,(AB ((List.replicate (p0.f1.length:Int).toNat (0:Int)).length:Int))),(17,(AB x83))]∧H=[(n2,(.mem (Ak p0))),(BA n3 ((Vector.replicate 256 (0:Int)).toList.map AK)),(n4,(Z3 x82))]∧Fg k p0 kq x82 x83=some r) k ⟨(List.replicate (p0.f1.length:Int).toNat (0:Int)),(0:Int),rfl,rfl,h⟩ ?_;rintro kq85 _ _ ⟨x82,x83,rfl,rfl,h⟩
  cases kq85 with
  | zero=>rw[Fg.eq_1]at h;cases h
  | succ kq85=>
  rw[Fg.eq_2]at h;generalize hrec84:Fg k p0 kq85=rec84 at h;refine .a 5 ?_;rcases oi h with⟨c86,h⟩|⟨c86,h⟩
  ·refine .a 12 ?_;obtain⟨g87,h⟩:=AC h;refine .a 1 ?_;refine .store 2 rfl rfl rfl rfl rfl rfl (.cast (.lidx x83 (-1:Int) g87.1 g87.2 .here) (by omega)) rfl rfl Bb rfl ?_;refine .coe 3 (y':=(BL n4 (AU x82 x83 (-1:Int)).length)) rfl (fun _ _ h=>Ad h) ?_;refine .coe 20 (y':=(BL n4 (AU x82 x83 (-1:Int)).length)) rfl (fun _ _ h=>Ad h) ?_;refine .a 4 ?_;refine .nK [1,2,3,16,17] ?_;exact⟨kq85,Nat.lt_succ_self _,(AU x82 x83 (-1:Int)),(AG (x83+(1:Int))),rfl,rfl,by rw[hrec84];exact h⟩
  refine .a 1 ?_;refine .eK [1,2,3] ?_;exact⟨x82,rfl,rfl,h⟩
 rintro _ _ ⟨x6,rfl,rfl,h⟩;rw[I1.eq_1]at h;refine .a 4 ?_;refine .c (x:=(Z0 (p0.f0.toList.map AK))) (.build (qs:=[(0,(.ar 1 (p0.f0.toList.map AK)))]) rfl ⟨rfl,rfl,rfl,trivial⟩ Tryz.underlying42 rfl CY BV (.cons rfl rfl (Ax _ _) (Ax _ _) (.cast (.fld0 .here) rfl) .nil) rfl) ?_;refine .alloc rfl 5 rfl (by decide) rfl CY BV fun n7=>?_;refine .store 0 rfl rfl rfl rfl rfl rfl (.cast .here rfl) rfl rfl BQ rfl ?_;refine .nS [1,2,3,5] [1,2,3,0] ?_;refine .a 8 ?_;rcases oi h with⟨c8,h⟩|⟨c8,h⟩
 ·refine .a 4 ?_;refine .store 1 rfl rfl rfl rfl rfl rfl (.cast .here rfl) rfl rfl BQ rfl ?_;refine .nS [2] [1] ?_;refine .coeFld (X':=(Uz (p0.f0.toList.map AK) ([]:List (List Int)))) 0 rfl (.cast (.fldS (.fld0 .here)) rfl) rfl (Bc 1) rfl rfl ?_;refine .coeFld (X':=(PP (p0.f0.toList.map AK) ([]:List (List Int)) ([]:List Int))) 0 rfl (.cast (.fldS (.fldS (.fld0 .here))) rfl) rfl (Bc 1) rfl rfl ?_;refine .rK [2] ?_;cases h;exact⟨[(Ak (AI.mk p0.f0 ([]:List (List Int)) ([]:List Int)))],⟨⟨_,0,rfl,rfl,E9,BQ⟩,trivial⟩,rfl⟩
 refine .a 4 ?_;refine .lit (Z:=(AB (0:Int))) (xs:=(([(0:Int)]:List Int).map AB)) (qs:=[(0,(AB (0:Int)))]) rfl 32 rfl (by decide) rfl ⟨rfl,rfl,rfl,trivial⟩ Tryz.underlying40 Bb Fj DT rfl (by decide) (An (z:=1) [(AB (0:Int))] rfl ⟨⟨rfl,rfl⟩,trivial⟩) rfl fun n9=>?_;refine .a 1 ?_;refine .nS [1,2,3,5,6] [1,2,3,4,0] ?_;refine .a 3 ?_;obtain⟨g10,h⟩:=AC h;refine .a 1 ?_;refine .store 2 rfl rfl rfl rfl rfl rfl (.cast (.lidx (0:Int) (0:Int) g10.1 g10.2 .here) (by omega)) rfl rfl Bb rfl ?_;refine .coe 3 (y':=(BL n4 (AU x6 (0:Int) (0:Int)).length)) rfl (fun _ _ h=>Ad h) ?_;refine .coe 33 (y':=(BL n4 (AU x6 (0:Int) (0:Int)).length)) rfl (fun _ _ h=>Ad h) ?_;refine .nK [1,2,3,5,6] ?_;refine .seq_mid (fun ρ H=>∃ (n11:Nat) (n13:Nat) (x12:(List (List Int))) (x14:(List Int)),ρ=[(2,(.ptr n3 0)),(5,(.ptr n7 0))]∧H=[(BA n3 ((Vector.replicate 256 (0:Int)).toList.map AK)),(Z6 n7 (p0.f0.toList.map AK) n11 x12.length n13 x14.length),(Z5 n11 x12),(n13,(Z3 x14))]∧M1 k p0 x12 x14=some r) ?_ ?_
 ·refine .a 5 ?_;refine .nilOwnFld 3 1 (fun n80=>(.st [(256,(.ar 1 (p0.f0.toList.map AK))),(1,(.own n80 0 0)),(1,(.fl (.slice none 0 0)))])) rfl (fun _=>(.cast (.fldS (.fld0 .here)) rfl)) (fun _=>rfl) (fun _=>rfl) fun n80=>?_;refine .nilOwnFld 4 1 (fun n81=>(.st [(256,(.ar 1 (p0.f0.toList.map AK))),(1,(BL n80 ([]:List (List Int)).length)),(1,(.own n81 0 0))])) rfl (fun _=>(.cast (.fldS (.fldS (.fld0 .here))) rfl)) (fun _=>rfl) (fun _=>rfl) fun n81=>?_;refine .wH [1,2,3,5,6,7] (H':=[(n2,(.mem (Ak p0))),(BA n3 ((Vector.replicate 256 (0:Int)).toList.map AK)),(n4,(Z3 (AU x6 (0:Int) (0:Int)))),(Z6 n7 (p0.f0.toList.map AK) n80 ([]:List (List Int)).length n81 ([]:List Int).length),(Z5 n80 ([]:List (List Int))),(n81,(Z3 ([]:List Int))),(n9,(Z3 ([(0:Int)]:List Int)))]) (.cons 2 rfl (.cons 2 rfl (.cons 2 rfl (.cons 2 rfl (.cons 1 rfl (.cons 0 rfl (.cons 0 rfl (.nil _)))))))) ?_;refine .loop (fun kq ρ H=>∃ (n16:Nat) (n18:Nat) (n20:Nat) (x15:(List Int)) (x17:(List (List Int))) (x19:(List Int)) (x21:(List Int)) (x22:Int),ρ=[(1,(.ptr n2 0)),(2,(.ptr n3 0)),(3,(.own n4 0 x15.length)),(5,(.ptr n7 0)),(6,(.own n20 0 x21.length)),(7,(AB x22))]∧H=[(n2,(.mem (Ak p0))),(BA n3 ((Vector.replicate 256 (0:Int)).toList.map AK)),(n4,(Z3 x15)),(Z6 n7 (p0.f0.toList.map AK) n16 x17.length n18 x19.length),(Z5 n16 x17),(n18,(Z3 x19)),(n20,(Z3 x21))]∧Fe k p0 kq x15 x17 x19 x21 x22=some r) k ⟨n80,n81,n9,(AU x6 (0:Int) (0:Int)),([]:List (List Int)),([]:List Int),([(0:Int)]:List Int),(0:Int),rfl,rfl,h⟩ ?_
  rintro kq24 _ _ ⟨n16,n18,n20,x15,x17,x19,x21,x22,rfl,rfl,h⟩
  cases kq24 with
  | zero=>rw[Fe.eq_1]at h;cases h
  | succ kq24=>
  rw[Fe.eq_2]at h;generalize hrec23:Fe k p0 kq24=rec23 at h;refine .a 8 ?_;rcases oi h with⟨c25,h⟩|⟨c25,h⟩
  ·refine .a 1 ?_;refine .sK [1,2,3,5,6,7] ?_;refine .seq_mid (fun ρ H=>∃ (n27:Nat) (n29:Nat) (n31:Nat) (x26:(List Int)) (x28:(List (List Int))) (x30:(List Int)) (x32:(List Int)),ρ=[(1,(.ptr n2 0)),(2,(.ptr n3 0)),(3,(.own n4 0 x26.length)),(5,(.ptr n7 0)),(6,(.own n31 0 x32.length)),(7,(AB x22))]∧H=[(n2,(.mem (Ak p0))),(BA n3 ((Vector.replicate 256 (0:Int)).toList.map AK)),(n4,(Z3 x26)),(Z6 n7 (p0.f0.toList.map AK) n27 x28.length n29 x30.length),(Z5 n27 x28),(n29,(Z3 x30)),(n31,(Z3 x32))]∧Me k rec23 x22 x26 x28 x30 x32=some r) ?_ ?_
   ·refine .a 2 ?_;obtain⟨g33,h⟩:=AC h;obtain⟨g34,h⟩:=AC h;obtain⟨g36,h⟩:=AC h;refine .regEff (by rfl) (by decide+kernel) (fun (σ:Nat→Nat)=>([(.ptr n2 256),(.fz 1 (p0.f1.map Ce)),(.own n20 0 x21.length),(AB x22),(.ptr n20 (x22.toNat*1+0)),(AB (AA x21 x22)),(.rp (Df (AA p0.f1 (AA x21 x22)))),(Df (AA p0.f1 (AA x21 x22))),(AB ((AA p0.f1 (AA x21 x22)).length:Int)),(BL (σ 9) ([]:List Int).length),(BL (σ 9) ([]:List Int).length)]:List AV)) (fun (L:Nat→Bool) (σ:Nat→Nat)=>((n2,(.mem (Ak p0)))::(BA n3 ((Vector.replicate 256 (0:Int)).toList.map AK))::(n4,(Z3 x15))::(Z6 n7 (p0.f0.toList.map AK) n16 x17.length n18 x19.length)::(Z5 n16 x17)::(n18,(Z3 x19))::(n20,(Z3 x21))::(bif L 9 then(((σ 9),(Z3 ([]:List Int)))::[])else([])):Aa)) [(1,(.ptr n2 0)),(2,(.ptr n3 0)),(3,(.own n4 0 x15.length)),(5,(.ptr n7 0)),(6,(.own n20 0 x21.length)),(7,(AB x22))] ⟨rfl,rfl,rfl,rfl,rfl,rfl,trivial⟩ (fun _=>rfl) (fun σ=>(.refl _)) ⟨?_,?_,?_,?_,?_,?_,?_,?_,?_,?_,?_,trivial⟩ (fun σ=>[(1,(.ptr n2 0)),(2,(.ptr n3 0)),(3,(.own n4 0 x15.length)),(5,(.ptr n7 0)),(6,(.own n20 0 x21.length)),(7,(AB x22)),(8,(BL (σ 9) ([]:List Int).length))]) (fun σ=>((n2,(.mem (Ak p0)))::(BA n3 ((Vector.replicate 256 (0:Int)).toList.map AK))::(n4,(Z3 x15))::(Z6 n7 (p0.f0.toList.map AK) n16 x17.length n18 x19.length)::(Z5 n16 x17)::(n18,(Z3 x19))::(n20,(Z3 x21))::((σ 9),(Z3 ([]:List Int)))::[])) (fun σ=>⟨rfl,rfl,rfl,rfl,rfl,rfl,rfl,trivial⟩) (fun σ=>.refl _) (fun σ=>?_)
    ·refine .calm (fun _ _=>rfl) fun L σ hc hi hd=>?_;refine .a 1 ?_;exact .nE (d:=41) rfl ⟨⟨41,_,rfl,rfl,rfl⟩,.refl _⟩
    ·refine .calm (fun _ _=>rfl) fun L σ hc hi hd=>?_;refine .a 1 ?_;exact .nE (d:=42) rfl ⟨⟨42,_,rfl,rfl,rfl⟩,.refl _⟩
    ·refine .calm (fun _ _=>rfl) fun L σ hc hi hd=>?_;refine .a 1 ?_;exact .nE (d:=43) rfl ⟨⟨43,_,rfl,rfl,rfl⟩,.refl _⟩
    ·refine .calm (fun _ _=>rfl) fun L σ hc hi hd=>?_;refine .a 1 ?_;exact .nE (d:=44) rfl ⟨⟨44,_,rfl,rfl,rfl⟩,.refl _⟩
    ·refine .calm (fun _ _=>rfl) fun L σ hc hi hd=>?_;refine .a 1 ?_;exact .nE (d:=45) rfl ⟨⟨45,_,rfl,rfl,rfl⟩,.refl _⟩
    ·refine .calm (fun _ _=>rfl) fun L σ hc hi hd=>?_;refine .wK [45] ?_;refine .c (.load 6 rfl rfl rfl (.cast (.lidx x22 g33.1 g33.2 .here) (by omega)) Rl Bb) ?_;exact .nE (d:=46) rfl ⟨⟨46,_,rfl,rfl,rfl⟩,.refl _⟩
    ·refine .calm (fun _ _=>rfl) fun L σ hc hi hd=>?_;refine .a 1 ?_;exact .nE (d:=47) rfl ⟨⟨47,_,rfl,rfl,rfl⟩,.refl _⟩
    ·refine .calm (fun _ _=>rfl) fun L σ hc hi hd=>?_;refine .a 1 ?_;exact .nE (d:=48) rfl ⟨⟨48,_,rfl,rfl,rfl⟩,.refl _⟩
    ·refine .calm (fun _ _=>rfl) fun L σ hc hi hd=>?_;refine .a 1 ?_;exact .nE (d:=49) rfl ⟨⟨49,_,rfl,rfl,rfl⟩,.refl _⟩
    ·intro L σ hc hi hd;refine .heq (H':=((n2,(.mem (Ak p0)))::(BA n3 ((Vector.replicate 256 (0:Int)).toList.map AK))::(n4,(Z3 x15))::(Z6 n7 (p0.f0.toList.map AK) n16 x17.length n18 x19.length)::(Z5 n16 x17)::(n18,(Z3 x19))::(n20,(Z3 x21))::[])) (by first|rfl|simp only[hi,cond_true,cond_false]) ?_;refine .wK [49] ?_;refine .makeRoom (f:=AB) (0:Int) rfl 50 rfl (by decide) rfl rfl rfl Tryz.underlying40 Bb KP Fj DT rfl g36 fun n35=>?_;have a9:A5 L 9 9=true:=rfl;have u9:Cf σ 9 n35 9=n35:=rfl;have m10:L 10=false:=hc.neg (i:=9) (j:=10) rfl (by rfl) hi;exact .nE (d:=50) rfl ⟨(Cf σ 9 n35),(fun j hj=>match j,hj with |0,_=>rfl|1,_=>rfl|2,_=>rfl|3,_=>rfl|4,_=>rfl|5,_=>rfl|6,_=>rfl|7,_=>rfl|8,_=>rfl|9,hj=>Bool.noConfusion (hj.symm.trans hi)|10,hj=>Bool.noConfusion (hj.symm.trans m10)|_+11,_=>rfl),(fun d' hd'=>⟨_,rfl,by cases hd';rfl⟩),.of_eq (B:=((n2,(.mem (Ak p0)))::(BA n3 ((Vector.replicate 256 (0:Int)).toList.map AK))::(n4,(Z3 x15))::(Z6 n7 (p0.f0.toList.map AK) n16 x17.length n18 x19.length)::(Z5 n16 x17)::(n18,(Z3 x19))::(n20,(Z3 x21))::(n35,(Z3 ([]:List Int)))::[])) (by simp only[a9,u9,cond_true,cond_false]) (.cons 1 rfl (.cons 1 rfl (.cons 1 rfl (.cons 1 rfl (.cons 1 rfl (.cons 1 rfl (.cons 1 rfl (.cons 0 rfl (.refl _)))))))))⟩
    ·refine .calm (fun _ _=>rfl) fun L σ hc hi hd=>?_;have y9:L 9=true:=BC hd (i:=9) (by rfl);refine .heq (H':=((n2,(.mem (Ak p0)))::(BA n3 ((Vector.replicate 256 (0:Int)).toList.map AK))::(n4,(Z3 x15))::(Z6 n7 (p0.f0.toList.map AK) n16 x17.length n18 x19.length)::(Z5 n16 x17)::(n18,(Z3 x19))::(n20,(Z3 x21))::((σ 9),(Z3 ([]:List Int)))::[])) (by first|rfl|simp only[y9,cond_true,cond_false]) ?_;refine .a 1 ?_;exact .nE (d:=8) rfl ⟨⟨8,_,rfl,rfl,rfl⟩,.of_eq (by first|rfl|simp only[y9,cond_true,cond_false]) (.refl _)⟩
    generalize σ 9=n35;refine .nK [1,2,3,5,6,7,8] ?_;refine .seq_mid (fun ρ H=>∃ (n38:Nat) (n40:Nat) (x37:(List Int)) (x39:(List Int)) (x41:(List Int)),ρ=[(1,(.ptr n2 0)),(2,(.ptr n3 0)),(3,(.own n4 0 x37.length)),(5,(.ptr n7 0)),(6,(.own n38 0 x39.length)),(7,(AB x22)),(8,(.own n40 0 x41.length))]∧H=[(n2,(.mem (Ak p0))),(BA n3 ((Vector.replicate 256 (0:Int)).toList.map AK)),(n4,(Z3 x37)),(Z6 n7 (p0.f0.toList.map AK) n16 x17.length n18 x19.length),(Z5 n16 x17),(n18,(Z3 x19)),(n38,(Z3 x39)),(n40,(Z3 x41))]∧Jq k rec23 p0 x17 x19 x22 x37 x39 x41=some r) ?_ ?_
    ·refine .seq ?_;refine .regQ (by rfl) (by decide+kernel) ?_;refine .a 4 ?_;obtain⟨g50,h⟩:=AC h;refine .c (.idxO 6 rfl rfl rfl rfl g50 Tryz.underlying40 Bb) ?_;refine .c (.load 6 rfl rfl rfl (.cast (.lidx x22 g50.1 g50.2 .here) (by omega)) Rl Bb) ?_;obtain⟨g51,h⟩:=AC h;refine .a 6 ?_;refine .wK [1,2,3,5,6,7,8,58,59,60] ?_;refine .loop (fun kq ρ H=>∃ (n53:Nat) (n55:Nat) (x52:(List Int)) (x54:(List Int)) (x56:(List Int)) (x57:Int),ρ=[(1,(.ptr n2 0)),(2,(.ptr n3 0)),(3,(.own n4 0 x52.length)),(5,(.ptr n7 0)),(6,(.own n53 0 x54.length)),(7,(AB x22)),(8,(.own n55 0 x56.length)),(58,(Df (AA p0.f1 (AA x21 x22)))),(59,(AB ((AA p0.f1 (AA x21 x22)).length:Int))),(60,(AB x57))]∧H=[(n2,(.mem (Ak p0))),(BA n3 ((Vector.replicate 256 (0:Int)).toList.map AK)),(n4,(Z3 x52)),(Z6 n7 (p0.f0.toList.map AK) n16 x17.length n18 x19.length),(Z5 n16 x17),(n18,(Z3 x19)),(n53,(Z3 x54)),(n55,(Z3 x56))]∧Ee k rec23 p0 x17 x19 x21 x22 kq x52 x54 x56 x57=some r) k ⟨n20,n35,x15,x21,([]:List Int),(0:Int),rfl,rfl,h⟩ ?_;rintro kq59 _ _ ⟨n53,n55,x52,x54,x56,x57,rfl,rfl,h⟩
     cases kq59 with
     | zero=>rw[Ee.eq_1]at h;cases h
     | succ kq59=>
     rw[Ee.eq_2]at h;generalize hrec58:Ee k rec23 p0 x17 x19 x21 x22 kq59=rec58 at h;refine .a 5 ?_;rcases oi h with⟨c60,h⟩|⟨c60,h⟩
     ·refine .a 6 ?_;obtain⟨g61,h⟩:=AC h;refine .a 3 ?_;refine .nK [1,2,3,5,6,7,8,10,58,59,60] ?_;refine .seq_mid (fun ρ H=>∃ (n63:Nat) (x62:(List Int)) (x64:(List Int)),ρ=[(1,(.ptr n2 0)),(2,(.ptr n3 0)),(3,(.own n4 0 x62.length)),(5,(.ptr n7 0)),(6,(.own n63 0 x64.length)),(7,(AB x22)),(8,(.own n55 0 x56.length)),(10,(AB (AA (AA p0.f1 (AA x21 x22)) x57))),(58,(Df (AA p0.f1 (AA x21 x22)))),(59,(AB ((AA p0.f1 (AA x21 x22)).length:Int))),(60,(AB x57))]∧H=[(n2,(.mem (Ak p0))),(BA n3 ((Vector.replicate 256 (0:Int)).toList.map AK)),(n4,(Z3 x62)),(Z6 n7 (p0.f0.toList.map AK) n16 x17.length n18 x19.length),(Z5 n16 x17),(n18,(Z3 x19)),(n63,(Z3 x64)),(n55,(Z3 x56))]∧I2 k rec58 p0 x21 x22 x56 x57 x62 x64=some r) ?_ ?_
      ·refine .seq ?_;obtain⟨b71,q72,h⟩:=ob h;refine .regM [(1,(.ptr n2 0)),(2,(.ptr n3 0)),(3,(.own n4 0 x52.length)),(5,(.ptr n7 0)),(6,(.own n53 0 x54.length)),(7,(AB x22)),(8,(.own n55 0 x56.length)),(10,(AB (AA (AA p0.f1 (AA x21 x22)) x57))),(58,(Df (AA p0.f1 (AA x21 x22)))),(59,(AB ((AA p0.f1 (AA x21 x22)).length:Int))),(60,(AB x57)),(72,(AD b71))] [(n2,(.mem (Ak p0))),(BA n3 ((Vector.replicate 256 (0:Int)).toList.map AK)),(n4,(Z3 x52)),(Z6 n7 (p0.f0.toList.map AK) n16 x17.length n18 x19.length),(Z5 n16 x17),(n18,(Z3 x19)),(n53,(Z3 x54)),(n55,(Z3 x56))] ?_ ?_
       ·refine .a 3 ?_;rcases oi q72 with⟨c73,q72⟩|⟨c73,q72⟩
        ·refine .a 2 ?_;obtain⟨g74,q72⟩:=AC q72;refine .cG rfl rfl (bD (decide_eq_true c73)) (.idxO 2 rfl rfl rfl rfl g74 Tryz.underlying40 Bb) ?_;refine .cG rfl rfl (bD (decide_eq_true c73)) (.load 2 rfl rfl rfl (.cast (.lidx (AA (AA p0.f1 (AA x21 x22)) x57) g74.1 g74.2 .here) (by omega)) Rl Bb) ?_;refine .cG (x:=AD (decide ((AA x52 (AA (AA p0.f1 (AA x21 x22)) x57))=(-1:Int)))) rfl rfl (bD (decide_eq_true c73)) (.int rfl rfl rfl rfl) ?_;refine .c (.pickT rfl (bD (decide_eq_true c73)) rfl) ?_;cases q72;refine .nilE ⟨rfl,rfl⟩ ?_ ?_
         ·exact⟨rfl,rfl,rfl,rfl,rfl,rfl,rfl,rfl,rfl,rfl,rfl,rfl,trivial⟩
         exact(.refl _)
        refine .a 6 ?_;cases q72;refine .nilE ⟨rfl,rfl⟩ ?_ ?_
        ·exact⟨rfl,rfl,rfl,rfl,rfl,rfl,rfl,rfl,rfl,rfl,rfl,rfl,trivial⟩
        exact(.refl _)
       rcases oi h with⟨c75,h⟩|⟨c75,h⟩
       ·refine .a 7 ?_;obtain⟨g76,h⟩:=AC h;refine .a 1 ?_;refine .store 2 rfl rfl rfl rfl rfl rfl (.cast (.lidx (AA (AA p0.f1 (AA x21 x22)) x57) (x54.length:Int) g76.1 g76.2 .here) (by omega)) rfl rfl Bb rfl ?_;refine .coe 3 (y':=(BL n4 (AU x52 (AA (AA p0.f1 (AA x21 x22)) x57) (x54.length:Int)).length)) rfl (fun _ _ h=>Ad h) ?_;refine .coe 73 (y':=(BL n4 (AU x52 (AA (AA p0.f1 (AA x21 x22)) x57) (x54.length:Int)).length)) rfl (fun _ _ h=>Ad h) ?_;refine .a 4 ?_;refine .lit (Z:=(AB (0:Int))) (xs:=(([(AA (AA p0.f1 (AA x21 x22)) x57)]:List Int).map AB)) (qs:=[(0,(AB (AA (AA p0.f1 (AA x21 x22)) x57)))]) rfl 80 rfl (by decide) rfl ⟨rfl,rfl,rfl,trivial⟩ Tryz.underlying40 Bb Fj DT rfl (by decide) (An (z:=1) [(AB (AA (AA p0.f1 (AA x21 x22)) x57))] rfl ⟨⟨rfl,rfl⟩,trivial⟩) rfl fun n77=>?_;obtain⟨g79,h⟩:=AC h;refine .appendL (l:=x54) (m:=([(AA (AA p0.f1 (AA x21 x22)) x57)]:List Int)) 7 81 rfl (by decide) rfl rfl rfl rfl rfl (CS.ownL (f:=AB) (l:=([(AA (AA p0.f1 (AA x21 x22)) x57)]:List Int)) 0 rfl) Tryz.underlying40 Tryz.underlying40 Bb KP Fj rfl g79 (by decide) fun n78=>?_;refine .a 1 ?_;refine .nS [1,2,3,5,6,7,8,10,58,59,60] [1,2,3,4,5,6,7,8] ?_;exact⟨n78,(AU x52 (AA (AA p0.f1 (AA x21 x22)) x57) (x54.length:Int)),(x54++([(AA (AA p0.f1 (AA x21 x22)) x57)]:List Int)),rfl,rfl,h⟩
       refine .a 1 ?_;refine .sK [1,2,3,5,6,7,8,10,58,59,60] ?_;exact⟨n53,x52,x54,rfl,rfl,h⟩
      rintro _ _ ⟨n63,x62,x64,rfl,rfl,h⟩;rw[I2.eq_1]at h;refine .seq_mid (fun ρ H=>∃ (x65:Int),ρ=[(1,(.ptr n2 0)),(2,(.ptr n3 0)),(3,(.own n4 0 x62.length)),(5,(.ptr n7 0)),(6,(.own n63 0 x64.length)),(7,(AB x22)),(8,(.own n55 0 x56.length)),(10,(AB x65)),(58,(Df (AA p0.f1 (AA x21 x22)))),(59,(AB ((AA p0.f1 (AA x21 x22)).length:Int))),(60,(AB x57))]∧H=[(n2,(.mem (Ak p0))),(BA n3 ((Vector.replicate 256 (0:Int)).toList.map AK)),(n4,(Z3 x62)),(Z6 n7 (p0.f0.toList.map AK) n16 x17.length n18 x19.length),(Z5 n16 x17),(n18,(Z3 x19)),(n63,(Z3 x64)),(n55,(Z3 x56))]∧J8 k rec58 x56 x57 x62 x64 x65=some r) ?_ ?_
      ·refine .a 5 ?_;rcases oi h with⟨c69,h⟩|⟨c69,h⟩
       ·refine .a 4 ?_;obtain⟨g70,h⟩:=AC h;refine .c (.idxO 2 rfl rfl rfl rfl g70 Tryz.underlying40 Bb) ?_;refine .c (.load 2 rfl rfl rfl (.cast (.lidx (AA (AA p0.f1 (AA x21 x22)) x57) g70.1 g70.2 .here) (by omega)) Rl Bb) ?_;refine .ag rfl rfl ?_;refine .nK [1,2,3,5,6,7,8,10,58,59,60] ?_;exact⟨(AA x62 (AA (AA p0.f1 (AA x21 x22)) x57)),rfl,rfl,h⟩
       refine .a 1 ?_;refine .sK [1,2,3,5,6,7,8,10,58,59,60] ?_;exact⟨(AA (AA p0.f1 (AA x21 x22)) x57),rfl,rfl,h⟩
      rintro _ _ ⟨x65,rfl,rfl,h⟩;rw[J8.eq_1]at h;refine .a 3 ?_;refine .lit (Z:=(AB (0:Int))) (xs:=(([x65]:List Int).map AB)) (qs:=[(0,(AB x65))]) rfl 90 rfl (by decide) rfl ⟨rfl,rfl,rfl,trivial⟩ Tryz.underlying40 Bb Fj DT rfl (by decide) (An (z:=1) [(AB x65)] rfl ⟨⟨rfl,rfl⟩,trivial⟩) rfl fun n66=>?_;obtain⟨g68,h⟩:=AC h;refine .appendL (l:=x56) (m:=([x65]:List Int)) 8 91 rfl (by decide) rfl rfl rfl rfl rfl (CS.ownL (f:=AB) (l:=([x65]:List Int)) 0 rfl) Tryz.underlying40 Tryz.underlying40 Bb KP Fj rfl g68 (by decide) fun n67=>?_;refine .a 1 ?_;refine .nS [1,2,3,5,6,7,8,58,59,60] [1,2,3,4,5,6,7,8] ?_;refine .a 3 ?_;refine .nK [1,2,3,5,6,7,8,58,59,60] ?_;exact⟨kq59,Nat.lt_succ_self _,n63,n67,x62,x64,(x56++([x65]:List Int)),(AG (x57+(1:Int))),rfl,rfl,by rw[hrec58];exact h⟩
     refine .a 1 ?_;refine .eK [1,2,3,5,6,7,8] ?_;exact⟨n53,n55,x52,x54,x56,rfl,rfl,h⟩
    rintro _ _ ⟨n38,n40,x37,x39,x41,rfl,rfl,h⟩;rw[Jq.eq_1]at h;refine .a 5 ?_;refine .freezeS 7 [(8,(.fz 1 (x41.map AB))),(95,(.fz 1 (x41.map AB)))] rfl ⟨Aj rfl,Aj rfl,trivial⟩ ?_;refine .lit (Z:=(.fl (.slice none 0 0))) (xs:=(([x41]:List (List Int)).map Ce)) (qs:=[(0,(.fz 1 (x41.map AB)))]) rfl 96 rfl (by decide) rfl ⟨rfl,rfl,rfl,trivial⟩ Tryz.underlying39 HI KT Ng rfl (by decide) (An (z:=1) [(.fz 1 (x41.map AB))] rfl ⟨⟨rfl,rfl⟩,trivial⟩) rfl fun n42=>?_;obtain⟨g44,h⟩:=AC h;refine .appendL (l:=x17) (m:=([x41]:List (List Int))) 5 97 rfl (by decide) rfl rfl rfl rfl rfl (CS.ownL (f:=Ce) (l:=([x41]:List (List Int))) 0 rfl) Tryz.underlying39 Tryz.underlying39 HI Ud KT rfl g44 (by decide) fun n43=>?_;refine .a 1 ?_;refine .store 4 rfl rfl rfl rfl rfl rfl (.cast (.fldS (.fld0 .here)) rfl) rfl rfl KM rfl ?_;refine .nS [1,2,3,5,6,7] [1,2,3,4,5,6,7] ?_;obtain⟨g45,h⟩:=AC h;obtain⟨g46,h⟩:=AC h;obtain⟨g49,h⟩:=AC h
    refine .regEff (by rfl) (by decide+kernel) (fun (σ:Nat→Nat)=>([(.ptr n7 257),(.own n18 0 x19.length),(.ptr n2 257),(Df p0.f2),(.own n38 0 x39.length),(AB x22),(.ptr n38 (x22.toNat*1+0)),(AB (AA x39 x22)),(.rp (AB (AA p0.f2 (AA x39 x22)))),(AB (AA p0.f2 (AA x39 x22))),(Df ([(AA p0.f2 (AA x39 x22))]:List Int)),(BL (σ 11) (x19++([(AA p0.f2 (AA x39 x22))]:List Int)).length),(.ptr n7 257),(.fl undef)]:List AV)) (fun (L:Nat→Bool) (σ:Nat→Nat)=>((n2,(.mem (Ak p0)))::(BA n3 ((Vector.replicate 256 (0:Int)).toList.map AK))::(n4,(Z3 x37))::(Z5 n43 (x17++([x41]:List (List Int))))::(n38,(Z3 x39))::(bif L 11 then(bif L 13 then((Z6 n7 (p0.f0.toList.map AK) n43 (x17++([x41]:List (List Int))).length (σ 11) (x19++([(AA p0.f2 (AA x39 x22))]:List Int)).length)::((σ 11),(Z3 (x19++([(AA p0.f2 (AA x39 x22))]:List Int))))::[])else((Z6 n7 (p0.f0.toList.map AK) n43 (x17++([x41]:List (List Int))).length n18 x19.length)::((σ 11),(Z3 (x19++([(AA p0.f2 (AA x39 x22))]:List Int))))::[]))else((Z6 n7 (p0.f0.toList.map AK) n43 (x17++([x41]:List (List Int))).length n18 x19.length)::(n18,(Z3 x19))::[])):Aa)) [(1,(.ptr n2 0)),(2,(.ptr n3 0)),(3,(.own n4 0 x37.length)),(5,(.ptr n7 0)),(6,(.own n38 0 x39.length)),(7,(AB x22))] ⟨rfl,rfl,rfl,rfl,rfl,rfl,trivial⟩ (fun _=>rfl) (fun σ=>(.cons 0 rfl (.cons 0 rfl (.cons 0 rfl (.cons 1 rfl (.cons 2 rfl (.cons 0 rfl (.cons 0 rfl (.refl _))))))))) ⟨?_,?_,?_,?_,?_,?_,?_,?_,?_,?_,?_,?_,?_,?_,trivial⟩ (fun σ=>[(1,(.ptr n2 0)),(2,(.ptr n3 0)),(3,(.own n4 0 x37.length)),(5,(.ptr n7 0)),(6,(.own n38 0 x39.length)),(7,(AB x22))]) (fun σ=>((n2,(.mem (Ak p0)))::(BA n3 ((Vector.replicate 256 (0:Int)).toList.map AK))::(n4,(Z3 x37))::(Z5 n43 (x17++([x41]:List (List Int))))::(n38,(Z3 x39))::(Z6 n7 (p0.f0.toList.map AK) n43 (x17++([x41]:List (List Int))).length (σ 11) (x19++([(AA p0.f2 (AA x39 x22))]:List Int)).length)::((σ 11),(Z3 (x19++([(AA p0.f2 (AA x39 x22))]:List Int))))::[])) (fun σ=>⟨rfl,rfl,rfl,rfl,rfl,rfl,trivial⟩) (fun σ=>.refl _) (fun σ=>?_)
    ·refine .calm (fun _ _=>rfl) fun L σ hc hi hd=>?_;have m1:L 1=false:=hc.neg (i:=0) (j:=1) rfl (by rfl) hi;have m11:L 11=false:=hc.neg (i:=1) (j:=11) rfl (by rfl) m1;have m13:L 13=false:=hc.neg (i:=0) (j:=13) rfl (by rfl) hi;refine .heq (H':=((n2,(.mem (Ak p0)))::(BA n3 ((Vector.replicate 256 (0:Int)).toList.map AK))::(n4,(Z3 x37))::(Z5 n43 (x17++([x41]:List (List Int))))::(n38,(Z3 x39))::(Z6 n7 (p0.f0.toList.map AK) n43 (x17++([x41]:List (List Int))).length n18 x19.length)::(n18,(Z3 x19))::[])) (by first|rfl|simp only[m11,m13,cond_true,cond_false]) ?_;refine .a 1 ?_;exact .nE (d:=99) rfl ⟨⟨99,_,rfl,rfl,rfl⟩,.of_eq (by first|rfl|simp only[m11,m13,cond_true,cond_false]) (.refl _)⟩
    ·refine .calm (fun _ _=>rfl) fun L σ hc hi hd=>?_;have m11:L 11=false:=hc.neg (i:=1) (j:=11) rfl (by rfl) hi;have m13:L 13=false:=hc.neg (i:=1) (j:=13) rfl (by rfl) hi;refine .heq (H':=((n2,(.mem (Ak p0)))::(BA n3 ((Vector.replicate 256 (0:Int)).toList.map AK))::(n4,(Z3 x37))::(Z5 n43 (x17++([x41]:List (List Int))))::(n38,(Z3 x39))::(Z6 n7 (p0.f0.toList.map AK) n43 (x17++([x41]:List (List Int))).length n18 x19.length)::(n18,(Z3 x19))::[])) (by first|rfl|simp only[m11,m13,cond_true,cond_false]) ?_;refine .a 1 ?_;exact .nE (d:=100) rfl ⟨⟨100,_,rfl,rfl,rfl⟩,.of_eq (by first|rfl|simp only[m11,m13,cond_true,cond_false]) (.refl _)⟩
    ·refine .calm (fun _ _=>rfl) fun L σ hc hi hd=>?_;refine .a 1 ?_;exact .nE (d:=101) rfl ⟨⟨101,_,rfl,rfl,rfl⟩,.refl _⟩
    ·refine .calm (fun _ _=>rfl) fun L σ hc hi hd=>?_;refine .a 1 ?_;exact .nE (d:=102) rfl ⟨⟨102,_,rfl,rfl,rfl⟩,.refl _⟩
    ·refine .calm (fun _ _=>rfl) fun L σ hc hi hd=>?_;refine .a 1 ?_;exact .nE (d:=103) rfl ⟨⟨103,_,rfl,rfl,rfl⟩,.refl _⟩
    ·refine .calm (fun _ _=>rfl) fun L σ hc hi hd=>?_;refine .a 1 ?_;exact .nE (d:=104) rfl ⟨⟨104,_,rfl,rfl,rfl⟩,.refl _⟩
    ·refine .calm (fun _ _=>rfl) fun L σ hc hi hd=>?_;refine .a 1 ?_;exact .nE (d:=105) rfl ⟨⟨105,_,rfl,rfl,rfl⟩,.refl _⟩
    ·refine .calm (fun _ _=>rfl) fun L σ hc hi hd=>?_;refine .wK [105] ?_;refine .c (.load 4 rfl rfl rfl (.cast (.lidx x22 g45.1 g45.2 .here) (by omega)) Rl Bb) ?_;exact .nE (d:=106) rfl ⟨⟨106,_,rfl,rfl,rfl⟩,.refl _⟩
    ·refine .calm (fun _ _=>rfl) fun L σ hc hi hd=>?_;refine .a 1 ?_;exact .nE (d:=107) rfl ⟨⟨107,_,rfl,rfl,rfl⟩,.refl _⟩
    ·refine .calm (fun _ _=>rfl) fun L σ hc hi hd=>?_;refine .a 1 ?_;exact .nE (d:=108) rfl ⟨⟨108,_,rfl,rfl,rfl⟩,.refl _⟩
    ·refine .calm (fun _ _=>rfl) fun L σ hc hi hd=>?_;refine .wK [108] ?_;refine .lit (Z:=(AB (0:Int))) (xs:=(([(AA p0.f2 (AA x39 x22))]:List Int).map AB)) (qs:=[(0,(AB (AA p0.f2 (AA x39 x22))))]) rfl 109 rfl (by decide) rfl ⟨rfl,rfl,rfl,trivial⟩ Tryz.underlying40 Bb Fj DT rfl (by decide) (An (z:=1) [(AB (AA p0.f2 (AA x39 x22)))] rfl ⟨⟨rfl,rfl⟩,trivial⟩) rfl fun n47=>?_;refine .freezeS 0 [(109,(Df ([(AA p0.f2 (AA x39 x22))]:List Int)))] rfl ⟨Aj rfl,trivial⟩ ?_;exact .nE (d:=109) rfl ⟨⟨109,_,rfl,rfl,rfl⟩,.refl _⟩
    ·intro L σ hc hi hd;have m13:L 13=false:=hc.neg (i:=11) (j:=13) rfl (by rfl) hi;refine .heq (H':=((n2,(.mem (Ak p0)))::(BA n3 ((Vector.replicate 256 (0:Int)).toList.map AK))::(n4,(Z3 x37))::(Z5 n43 (x17++([x41]:List (List Int))))::(n38,(Z3 x39))::(Z6 n7 (p0.f0.toList.map AK) n43 (x17++([x41]:List (List Int))).length n18 x19.length)::(n18,(Z3 x19))::[])) (by first|rfl|simp only[hi,m13,cond_true,cond_false]) ?_;refine .wK [100,109] ?_;refine .appendL (l:=x19) (m:=([(AA p0.f2 (AA x39 x22))]:List Int)) 6 110 rfl (by decide) rfl rfl rfl rfl rfl CS.fz Tryz.underlying40 Tryz.underlying40 Bb KP Fj rfl g49 (by decide) fun n48=>?_;have a11:A5 L 11 11=true:=rfl;have a13:A5 L 11 13=false:=m13;have u11:Cf σ 11 n48 11=n48:=rfl;exact .nE (d:=110) rfl ⟨(Cf σ 11 n48),(fun j hj=>match j,hj with |0,_=>rfl|1,_=>rfl|2,_=>rfl|3,_=>rfl|4,_=>rfl|5,_=>rfl|6,_=>rfl|7,_=>rfl|8,_=>rfl|9,_=>rfl|10,_=>rfl|11,hj=>Bool.noConfusion (hj.symm.trans hi)|12,_=>rfl|13,_=>rfl|_+14,_=>rfl),(fun d' hd'=>⟨_,rfl,by cases hd';rfl⟩),.of_eq (B:=((n2,(.mem (Ak p0)))::(BA n3 ((Vector.replicate 256 (0:Int)).toList.map AK))::(n4,(Z3 x37))::(Z5 n43 (x17++([x41]:List (List Int))))::(n38,(Z3 x39))::(Z6 n7 (p0.f0.toList.map AK) n43 (x17++([x41]:List (List Int))).length n18 x19.length)::(n48,(Z3 (x19++([(AA p0.f2 (AA x39 x22))]:List Int))))::[])) (by simp only[a11,a13,u11,cond_true,cond_false]) (.refl _)⟩
    ·refine .calm (fun _ _=>rfl) fun L σ hc hi hd=>?_;have y11:L 11=true:=BC hd (i:=11) (by rfl);have m13:L 13=false:=hc.neg (i:=12) (j:=13) rfl (by rfl) hi;refine .heq (H':=((n2,(.mem (Ak p0)))::(BA n3 ((Vector.replicate 256 (0:Int)).toList.map AK))::(n4,(Z3 x37))::(Z5 n43 (x17++([x41]:List (List Int))))::(n38,(Z3 x39))::(Z6 n7 (p0.f0.toList.map AK) n43 (x17++([x41]:List (List Int))).length n18 x19.length)::((σ 11),(Z3 (x19++([(AA p0.f2 (AA x39 x22))]:List Int))))::[])) (by first|rfl|simp only[y11,m13,cond_true,cond_false]) ?_;refine .a 1 ?_;exact .nE (d:=111) rfl ⟨⟨111,_,rfl,rfl,rfl⟩,.of_eq (by first|rfl|simp only[y11,m13,cond_true,cond_false]) (.refl _)⟩
    ·intro L σ hc hi hd;have y11:L 11=true:=BC hd (i:=11) (by rfl);refine .heq (H':=((n2,(.mem (Ak p0)))::(BA n3 ((Vector.replicate 256 (0:Int)).toList.map AK))::(n4,(Z3 x37))::(Z5 n43 (x17++([x41]:List (List Int))))::(n38,(Z3 x39))::(Z6 n7 (p0.f0.toList.map AK) n43 (x17++([x41]:List (List Int))).length n18 x19.length)::((σ 11),(Z3 (x19++([(AA p0.f2 (AA x39 x22))]:List Int))))::[])) (by first|rfl|simp only[hi,y11,cond_true,cond_false]) ?_;refine .wK [110,111] ?_;refine .store 5 rfl rfl rfl rfl rfl rfl (.cast (.fldS (.fldS (.fld0 .here))) rfl) rfl rfl HI rfl ?_;have a11:A5 L 13 11=true:=y11;have a13:A5 L 13 13=true:=rfl;exact .n0 ⟨σ,(fun _ _=>rfl),(fun d' hd'=>by cases hd'),.of_eq (B:=((n2,(.mem (Ak p0)))::(BA n3 ((Vector.replicate 256 (0:Int)).toList.map AK))::(n4,(Z3 x37))::(Z5 n43 (x17++([x41]:List (List Int))))::(n38,(Z3 x39))::(Z6 n7 (p0.f0.toList.map AK) n43 (x17++([x41]:List (List Int))).length (σ 11) (x19++([(AA p0.f2 (AA x39 x22))]:List Int)).length)::((σ 11),(Z3 (x19++([(AA p0.f2 (AA x39 x22))]:List Int))))::[])) (by simp only[a11,a13,cond_true,cond_false]) (.refl _)⟩
    generalize σ 11=n48;refine .nS [1,2,3,5,6,7] [0,1,2,5,3,6,4] ?_;exact⟨n43,n48,n38,x37,(x17++([x41]:List (List Int))),(x19++([(AA p0.f2 (AA x39 x22))]:List Int)),x39,rfl,rfl,h⟩
   rintro _ _ ⟨n27,n29,n31,x26,x28,x30,x32,rfl,rfl,h⟩;rw[Me.eq_1]at h;refine .a 4 ?_;refine .nK [1,2,3,5,6,7] ?_;exact⟨kq24,Nat.lt_succ_self _,n27,n29,n31,x26,x28,x30,x32,(AG (x22+(1:Int))),rfl,rfl,by rw[hrec23];exact h⟩
  refine .a 1 ?_;refine .eH [2,5] (H':=[(BA n3 ((Vector.replicate 256 (0:Int)).toList.map AK)),(Z6 n7 (p0.f0.toList.map AK) n16 x17.length n18 x19.length),(Z5 n16 x17),(n18,(Z3 x19))]) (.cons 1 rfl (.cons 2 rfl (.cons 2 rfl (.cons 2 rfl (.nil _))))) ?_;exact⟨n16,n18,x17,x19,rfl,rfl,h⟩
 rintro _ _ ⟨n11,n13,x12,x14,rfl,rfl,h⟩;rw[M1.eq_1]at h;refine .sr ?_;refine .freezeFld (X':=(.st [(256,(.ar 1 (p0.f0.toList.map AK))),(1,(.fz 1 (x12.map Ce))),(1,(.own n13 0 x14.length))])) (els':=(x12.map Ce)) 2 1 rfl rfl (.cast (.fldS (.fld0 .here)) rfl) (by simp) (by rw[Be]) rfl rfl (by decide) ?_;refine .freezeFld (X':=(PP (p0.f0.toList.map AK) x12 x14)) (els':=(x14.map AB)) 2 1 rfl rfl (.cast (.fldS (.fldS (.fld0 .here))) rfl) (by simp) (by rw[Be]) rfl rfl (by decide) ?_;refine .a 1 ?_;refine .store 0 rfl rfl rfl rfl rfl rfl (.cast .here rfl) rfl rfl BQ rfl ?_;refine .nS [2] [0] ?_;refine .rK [2] ?_;cases h;exact⟨[(Ak (AI.mk p0.f0 x12 x14))],⟨⟨_,0,rfl,rfl,E9,BQ⟩,trivial⟩,rfl⟩
end Go.Avl.T8
namespace Go.Avl.T8
open Go Go.RowKit Go.Proofs Go.Avl
set_option linter.unusedVariables false
set_option maxRecDepth 100000
set_option maxHeartbeats 4000000
attribute [local irreducible] AW AO AQ AY Aq AH
def MG (k:Nat) (x5:(List Int)):Option (List Int):=
 some (x5)
def DY (k:Nat) (p0:AI):Nat→(List Int)→Int→Option (List Int)
 | 0,_,_=>none
 | j+1,x6,x7=>
   if x7<(p0.f2.length:Int)then if 0≤x7∧x7<(p0.f2.length:Int)then if 0≤x7∧x7<(x6.length:Int)then(DY k p0 j) (AU x6 x7 (AG ((AA p0.f2 x7)+(1:Int)))) (AG (x7+(1:Int)))
   else none
   else none
   else MG k x6
def S7 (k:Nat) (p0:AI):Option (List Int):=
 if 0≤(AG ((p0.f1.length:Int)+(1:Int)))∧(AG ((p0.f1.length:Int)+(1:Int)))*(8:Int)≤140737488355328∧(AG ((p0.f1.length:Int)+(1:Int)))≤9223372036854775807 then DY k p0 k (List.replicate (AG ((p0.f1.length:Int)+(1:Int))).toNat (0:Int)) (0:Int)
 else none
theorem RV {k:Nat} {p0:AI} {r:(List Int)} (h:S7 k p0=some r):AY Tryz.prog 100 [(Ak p0)] (Ce r):=by
 rw[S7.eq_1]at h;refine AY.intro (res:=[.tmp 2]) Tryz.func100 rfl rfl rfl (Nat.le_of_ble_eq_true rfl) ?_;refine .sr ?_;refine .box rfl 1 rfl (by decide) rfl rfl rfl fun n2=>?_;refine .a 8 ?_;obtain⟨g4,h⟩:=AC h;refine .makeL (f:=AB) (0:Int) rfl 10 rfl (by decide) rfl rfl rfl Tryz.underlying40 Bb KP Fj DT rfl g4 fun n3=>?_;refine .a 1 ?_;refine .nS [1,3] [1,0] ?_;refine .seq_mid (fun ρ H=>∃ (x5:(List Int)),ρ=[(3,(.own n3 0 x5.length))]∧H=[(n3,(Z3 x5))]∧MG k x5=some r) ?_ ?_
 ·refine .a 6 ?_;refine .nS [3,12,13,14] [1] ?_;refine .a 1 ?_;refine .wK [3,12,13,14] ?_;refine .loop (fun kq ρ H=>∃ (x6:(List Int)) (x7:Int),ρ=[(3,(.own n3 0 x6.length)),(12,(Df p0.f2)),(13,(AB (p0.f2.length:Int))),(14,(AB x7))]∧H=[(n3,(Z3 x6))]∧DY k p0 kq x6 x7=some r) k ⟨(List.replicate (AG ((p0.f1.length:Int)+(1:Int))).toNat (0:Int)),(0:Int),rfl,rfl,h⟩ ?_;rintro kq9 _ _ ⟨x6,x7,rfl,rfl,h⟩
  cases kq9 with
  | zero=>rw[DY.eq_1]at h;cases h
  | succ kq9=>
  rw[DY.eq_2]at h;generalize hrec8:DY k p0 kq9=rec8 at h;refine .a 5 ?_;rcases oi h with⟨c10,h⟩|⟨c10,h⟩
  ·refine .a 7 ?_;obtain⟨g11,h⟩:=AC h;refine .a 10 ?_;obtain⟨g12,h⟩:=AC h;refine .a 1 ?_;refine .store 0 rfl rfl rfl rfl rfl rfl (.cast (.lidx x7 (AG ((AA p0.f2 x7)+(1:Int))) g12.1 g12.2 .here) (by omega)) rfl rfl Bb rfl ?_;refine .coe 3 (y':=(BL n3 (AU x6 x7 (AG ((AA p0.f2 x7)+(1:Int)))).length)) rfl (fun _ _ h=>Ad h) ?_;refine .coe 19 (y':=(BL n3 (AU x6 x7 (AG ((AA p0.f2 x7)+(1:Int)))).length)) rfl (fun _ _ h=>Ad h) ?_;refine .a 4 ?_;refine .nK [3,12,13,14] ?_;exact⟨kq9,Nat.lt_succ_self _,(AU x6 x7 (AG ((AA p0.f2 x7)+(1:Int)))),(AG (x7+(1:Int))),rfl,rfl,by rw[hrec8];exact h⟩
  refine .a 1 ?_;refine .eK [3] ?_;exact⟨x6,rfl,rfl,h⟩
 rintro _ _ ⟨x5,rfl,rfl,h⟩;rw[MG.eq_1]at h;refine .a 4 ?_;refine .nK [2] ?_;refine .freezeS 0 [(2,(.fz 1 (x5.map AB)))] rfl ⟨Aj rfl,trivial⟩ ?_;refine .rK [2] ?_;have hr:=Option.some.inj h;subst hr;exact⟨[(.fz 1 (x5.map AB))],⟨rfl,rfl,trivial⟩,rfl⟩
def O4 (k:Nat) (p0:Int):Option ByteArray:=
 (some (strOfNums ([(w8 (Int.fdiv p0 (2 ^ (min (8:Int).toNat IntKind.i64.bits)))),(w8 p0)]:List Int))).bind fun x3=>
 some (x3)
theorem IK {k:Nat} {p0:Int} {r:ByteArray} (h:O4 k p0=some r):AY Tryz.prog 117 [(AB p0)] (AN r):=by
 rw[O4.eq_1]at h;refine AY.intro (res:=[.tmp 2]) Tryz.func117 rfl rfl rfl (Nat.le_of_ble_eq_true rfl) ?_;refine .a 7 ?_;refine .c (x:=AB (Int.fdiv p0 (2 ^ (min (8:Int).toNat IntKind.i64.bits)))) (.shr rfl rfl rfl (by decide)) ?_;refine .a 3 ?_;refine .lit (Z:=(AK (0:Int))) (xs:=(([(w8 (Int.fdiv p0 (2 ^ (min (8:Int).toNat IntKind.i64.bits)))),(w8 p0)]:List Int).map AK)) (qs:=[(0,(AK (w8 (Int.fdiv p0 (2 ^ (min (8:Int).toNat IntKind.i64.bits)))))),(1,(AK (w8 p0)))]) rfl 8 rfl (by decide) rfl ⟨rfl,rfl,rfl,rfl,rfl,rfl,trivial⟩ Tryz.underlying130 Ew Wv PL rfl (by decide) (An (z:=1) [(AK (w8 (Int.fdiv p0 (2 ^ (min (8:Int).toNat IntKind.i64.bits))))),(AK (w8 p0))] rfl ⟨⟨rfl,rfl⟩,⟨rfl,rfl⟩,trivial⟩) rfl fun n2=>?_;refine .c (x:=AN (strOfNums ([(w8 (Int.fdiv p0 (2 ^ (min (8:Int).toNat IntKind.i64.bits)))),(w8 p0)]:List Int))) (.strO 0 rfl rfl rfl Tryz.underlying130 Tryz.underlying9 Tryz.underlying5) ?_;obtain⟨x3,ex3,h⟩:=ob h;refine .c (.assign rfl (congrArg (fun x=>some (AN x)) (Option.some.inj ex3))) ?_;refine .nS [2] [] ?_;refine .rK [2] ?_;have hr:=Option.some.inj h;subst hr;exact⟨[(AN x3)],⟨rfl,rfl,trivial⟩,rfl⟩
def Mk (k:Nat) (x7:ByteArray):Option ByteArray:=
 some (x7)
def Gd (k:Nat) (rec11:(ByteArray→Int→Option ByteArray)) (p1:(List Int)) (x9:ByteArray) (x10:Int) (x14:Int):Option ByteArray:=
 if 0≤x14∧x14<(p1.length:Int)then(O4 k (AA p1 x14)).bind fun t16=>
 if x9.size+t16.size≤9223372036854775807 then rec11 (x9++t16) (AG (x10+(1:Int)))
 else none
 else none
def CW (k:Nat) (p0:AI) (p1:(List Int)) (p2:Int) (t8:Int):Nat→ByteArray→Int→Option ByteArray
 | 0,_,_=>none
 | j+1,x9,x10=>
   if x10<t8 then Option.bind (α:=Bool) (if p2<(p0.f1.length:Int)then if 0≤p2∧p2<(p0.f1.length:Int)then if 0≤x10∧x10<((AA p0.f1 p2).length:Int)then some (decide ((0:Int)≤(AA (AA p0.f1 p2) x10)))
   else none
   else none
   else some (false)) fun b18=>
   if b18=true then if 0≤p2∧p2<(p0.f1.length:Int)then if 0≤x10∧x10<((AA p0.f1 p2).length:Int)then Gd k (CW k p0 p1 p2 t8 j) p1 x9 x10 (AA (AA p0.f1 p2) x10)
   else none
   else none
   else Gd k (CW k p0 p1 p2 t8 j) p1 x9 x10 (p0.f1.length:Int)
   else Mk k x9
def SU (k:Nat) (p0:AI) (p1:(List Int)) (p2:Int):Option ByteArray:=
 if 0≤p2∧p2<(p1.length:Int)then(O4 k (AA p1 p2)).bind fun t6=>
 (Wk k p0.f0).bind fun t8=>
 CW k p0 p1 p2 t8 k t6 (0:Int)
 else none
theorem Ru {k:Nat} {p0:AI} {p1:(List Int)} {p2:Int} {r:ByteArray} (h:SU k p0 p1 p2=some r):AY Tryz.prog 116 [(Ak p0),(.fz 1 (p1.map AB)),(AB p2)] (AN r):=by
 rw[SU.eq_1]at h;refine AY.intro (res:=[.tmp 6]) Tryz.func116 rfl rfl rfl (Nat.le_of_ble_eq_true rfl) ?_;refine .sr ?_;refine .box rfl 3 rfl (by decide) rfl rfl rfl fun n4=>?_;refine .a 6 ?_;obtain⟨g5,h⟩:=AC h;refine .a 2 ?_;obtain⟨t6,et6,h⟩:=ob h;refine .callS [(AB (AA p1 p2))] (AN t6) 14 rfl (by decide) T5 rfl rfl rfl ⟨rfl,rfl,trivial⟩ (IK et6) ?_;refine .a 1 ?_;refine .nK [1,2,3,7] ?_;refine .seq_mid (fun ρ H=>∃ (x7:ByteArray),ρ=[(7,(AN x7))]∧H=[]∧Mk k x7=some r) ?_ ?_
 ·refine .a 4 ?_;obtain⟨t8,et8,h⟩:=ob h;refine .callS [(.ar 1 (p0.f0.toList.map AK))] (AB t8) 17 rfl (by decide) Xf rfl rfl rfl ⟨rfl,rfl,trivial⟩ (J2 et8) ?_;refine .a 3 ?_;refine .wK [1,2,3,7,17,18] ?_;refine .loop (fun kq ρ H=>∃ (x9:ByteArray) (x10:Int),ρ=[(1,(.fz 1 (p1.map AB))),(2,(AB p2)),(3,(.ptr n4 0)),(7,(AN x9)),(17,(AB t8)),(18,(AB x10))]∧H=[(n4,(.mem (Ak p0)))]∧CW k p0 p1 p2 t8 kq x9 x10=some r) k ⟨t6,(0:Int),rfl,rfl,h⟩ ?_;rintro kq12 _ _ ⟨x9,x10,rfl,rfl,h⟩
  cases kq12 with
  | zero=>rw[CW.eq_1]at h;cases h
  | succ kq12=>
  rw[CW.eq_2]at h;generalize hrec11:CW k p0 p1 p2 t8 kq12=rec11 at h;refine .a 5 ?_;rcases oi h with⟨c13,h⟩|⟨c13,h⟩
  ·refine .a 15 ?_;refine .nK [1,2,3,7,8,9,17,18] ?_;refine .seq_mid (fun ρ H=>∃ (x14:Int),ρ=[(1,(.fz 1 (p1.map AB))),(2,(AB p2)),(3,(.ptr n4 0)),(7,(AN x9)),(9,(AB x14)),(17,(AB t8)),(18,(AB x10))]∧H=[(n4,(.mem (Ak p0)))]∧Gd k rec11 p1 x9 x10 x14=some r) ?_ ?_
   ·refine .seq ?_;obtain⟨b18,q19,h⟩:=ob h;refine .regM [(1,(.fz 1 (p1.map AB))),(2,(AB p2)),(3,(.ptr n4 0)),(7,(AN x9)),(8,(AB x10)),(9,(AB (p0.f1.length:Int))),(17,(AB t8)),(18,(AB x10)),(39,(AD b18))] [(n4,(.mem (Ak p0)))] ?_ ?_
    ·refine .a 6 ?_;rcases oi q19 with⟨c20,q19⟩|⟨c20,q19⟩
     ·refine .a 3 ?_;obtain⟨g21,q19⟩:=AC q19;refine .a 3 ?_;obtain⟨g22,q19⟩:=AC q19;refine .a 4 ?_;cases q19;refine .nilE ⟨rfl,rfl⟩ ?_ ?_
      ·exact⟨rfl,rfl,rfl,rfl,rfl,rfl,rfl,rfl,rfl,trivial⟩
      exact(.refl _)
     refine .a 10 ?_;cases q19;refine .nilE ⟨rfl,rfl⟩ ?_ ?_
     ·exact⟨rfl,rfl,rfl,rfl,rfl,rfl,rfl,rfl,rfl,trivial⟩
     exact(.refl _)
    rcases oi h with⟨c23,h⟩|⟨c23,h⟩
    ·refine .a 5 ?_;obtain⟨g24,h⟩:=AC h;refine .a 3 ?_;obtain⟨g25,h⟩:=AC h;refine .a 3 ?_;refine .nK [1,2,3,7,9,17,18] ?_;exact⟨(AA (AA p0.f1 p2) x10),rfl,rfl,h⟩
    refine .a 1 ?_;refine .sK [1,2,3,7,9,17,18] ?_;exact⟨(p0.f1.length:Int),rfl,rfl,h⟩
   rintro _ _ ⟨x14,rfl,rfl,h⟩;rw[Gd.eq_1]at h;refine .a 4 ?_;obtain⟨g15,h⟩:=AC h;refine .a 2 ?_;obtain⟨t16,et16,h⟩:=ob h;refine .callS [(AB (AA p1 x14))] (AN t16) 53 rfl (by decide) T5 rfl rfl rfl ⟨rfl,rfl,trivial⟩ (IK et16) ?_;obtain⟨g17,h⟩:=AC h;refine .c (x:=AN (x9++t16)) (.cat rfl rfl rfl g17) ?_;refine .a 5 ?_;refine .nK [1,2,3,7,17,18] ?_;exact⟨kq12,Nat.lt_succ_self _,(x9++t16),(AG (x10+(1:Int))),rfl,rfl,by rw[hrec11];exact h⟩
  refine .a 1 ?_;refine .eH [7] (H':=[]) (.nil _) ?_;exact⟨x9,rfl,rfl,h⟩
 rintro _ _ ⟨x7,rfl,rfl,h⟩;rw[Mk.eq_1]at h;refine .a 4 ?_;refine .nK [6] ?_;refine .rK [6] ?_;have hr:=Option.some.inj h;subst hr;exact⟨[(AN x7)],⟨rfl,rfl,trivial⟩,rfl⟩
def MS (k:Nat) (x7:(List (ByteArray×Int))) (x8:(List Int)):Option ((List Int)×Int):=
 some (x8,(x7.length:Int))
def Hj (k:Nat) (rec12:((List (ByteArray×Int))→(List Int)→Int→Option ((List Int)×Int))) (x10:(List Int)) (x11:Int) (x16:(List (ByteArray×Int))) (x17:Int):Option ((List Int)×Int):=
 if 0≤x11∧x11<(x10.length:Int)then rec12 x16 (AU x10 x11 x17) (AG (x11+(1:Int)))
 else none
def Dv (k:Nat) (p0:AI) (p1:(List Int)):Nat→(List (ByteArray×Int))→(List Int)→Int→Option ((List Int)×Int)
 | 0,_,_,_=>none
 | j+1,x9,x10,x11=>
   if x11<(p1.length:Int)then(SU k p0 p1 x11).bind fun t15=>
   if(!((Ay x9 t15).isSome))=true then Hj k (Dv k p0 p1 j) x10 x11 (BE x9 t15 (x9.length:Int)) (x9.length:Int)
   else Hj k (Dv k p0 p1 j) x10 x11 x9 ((Ay x9 t15).getD (0:Int))
   else MS k x9 x10
def Yk (k:Nat) (p0:AI) (p1:(List Int)):Option ((List Int)×Int):=
 if 0≤(p1.length:Int)∧(p1.length:Int)*(8:Int)≤140737488355328∧(p1.length:Int)≤9223372036854775807 then Dv k p0 p1 k ([]:List (ByteArray×Int)) (List.replicate (p1.length:Int).toNat (0:Int)) (0:Int)
 else none
theorem Og {k:Nat} {p0:AI} {p1:(List Int)} {r:((List Int)×Int)} (h:Yk k p0 p1=some r):AY Tryz.prog 99 [(Ak p0),(.fz 1 (p1.map AB))] (.tup [(.fz 1 (r.1.map AB)),(AB r.2)]):=by
 rw[Yk.eq_1]at h;refine AY.intro (res:=[.tmp 4,.tmp 5]) Tryz.func99 rfl rfl rfl (Nat.le_of_ble_eq_true rfl) ?_;refine .sr ?_;refine .box rfl 2 rfl (by decide) rfl rfl rfl fun n3=>?_;refine .a 5 ?_;refine .makeMap rfl 12 rfl (by decide) rfl fun n4=>?_;refine .a 1 ?_;refine .nS [1,2,6] [1,0] ?_;refine .a 4 ?_;obtain⟨g6,h⟩:=AC h;refine .makeL (f:=AB) (0:Int) rfl 15 rfl (by decide) rfl rfl rfl Tryz.underlying40 Bb KP Fj DT rfl g6 fun n5=>?_;refine .a 1 ?_;refine .nS [1,2,6,7] [1,2,0] ?_;refine .seq_mid (fun ρ H=>∃ (x7:(List (ByteArray×Int))) (x8:(List Int)),ρ=[(6,(.mp n4)),(7,(.own n5 0 x8.length))]∧H=[(n4,(.map (Am Value.string AB x7))),(n5,(Z3 x8))]∧MS k x7 x8=some r) ?_ ?_
 ·refine .a 7 ?_;refine .wK [1,2,6,7,17,18] ?_;refine .loop (fun kq ρ H=>∃ (x9:(List (ByteArray×Int))) (x10:(List Int)) (x11:Int),ρ=[(1,(.fz 1 (p1.map AB))),(2,(.ptr n3 0)),(6,(.mp n4)),(7,(.own n5 0 x10.length)),(17,(AB (p1.length:Int))),(18,(AB x11))]∧H=[(n3,(.mem (Ak p0))),(n4,(.map (Am Value.string AB x9))),(n5,(Z3 x10))]∧Dv k p0 p1 kq x9 x10 x11=some r) k ⟨([]:List (ByteArray×Int)),(List.replicate (p1.length:Int).toNat (0:Int)),(0:Int),rfl,rfl,h⟩ ?_;rintro kq13 _ _ ⟨x9,x10,x11,rfl,rfl,h⟩
  cases kq13 with
  | zero=>rw[Dv.eq_1]at h;cases h
  | succ kq13=>
  rw[Dv.eq_2]at h;generalize hrec12:Dv k p0 p1 kq13=rec12 at h;refine .a 5 ?_;rcases oi h with⟨c14,h⟩|⟨c14,h⟩
  ·refine .a 14 ?_;obtain⟨t15,et15,h⟩:=ob h;refine .callS [(Ak p0),(.fz 1 (p1.map AB)),(AB x11)] (AN t15) 24 rfl (by decide) ZV rfl rfl rfl ⟨rfl,rfl,rfl,rfl,rfl,rfl,trivial⟩ (Ru et15) ?_;refine .a 6 ?_;refine .c (x:=.tup [(AB ((Ay x9 t15).getD (0:Int))),(AD ((Ay x9 t15).isSome))]) (.look2 (f:=AB) BO BN (0:Int) 1 rfl rfl rfl rfl Tryz.underlying97 Tryz.underlying9 Ym) ?_;refine .a 5 ?_;refine .nK [1,2,6,7,8,9,10,11,17,18] ?_;refine .seq_mid (fun ρ H=>∃ (x16:(List (ByteArray×Int))) (x17:Int),ρ=[(1,(.fz 1 (p1.map AB))),(2,(.ptr n3 0)),(6,(.mp n4)),(7,(.own n5 0 x10.length)),(8,(AB x11)),(10,(AB x17)),(17,(AB (p1.length:Int))),(18,(AB x11))]∧H=[(n3,(.mem (Ak p0))),(n4,(.map (Am Value.string AB x16))),(n5,(Z3 x10))]∧Hj k rec12 x10 x11 x16 x17=some r) ?_ ?_
   ·refine .a 5 ?_;rcases oi h with⟨c19,h⟩|⟨c19,h⟩
    ·refine .a 4 ?_;refine .c (x:=AB (x9.length:Int)) (.lenMap 1 rfl rfl rfl Tryz.underlying97) ?_;refine .a 6 ?_;refine .mapPut (f:=AB) BO BN 1 rfl rfl rfl rfl rfl rfl rfl rfl Tryz.underlying97 Tryz.underlying9 ?_;refine .nK [1,2,6,7,8,10,17,18] ?_;exact⟨(BE x9 t15 (x9.length:Int)),(x9.length:Int),rfl,rfl,h⟩
    refine .a 1 ?_;refine .sK [1,2,6,7,8,10,17,18] ?_;exact⟨x9,((Ay x9 t15).getD (0:Int)),rfl,rfl,h⟩
   rintro _ _ ⟨x16,x17,rfl,rfl,h⟩;rw[Hj.eq_1]at h;refine .a 4 ?_;obtain⟨g18,h⟩:=AC h;refine .a 1 ?_;refine .store 2 rfl rfl rfl rfl rfl rfl (.cast (.lidx x11 x17 g18.1 g18.2 .here) (by omega)) rfl rfl Bb rfl ?_;refine .coe 7 (y':=(BL n5 (AU x10 x11 x17).length)) rfl (fun _ _ h=>Ad h) ?_;refine .coe 38 (y':=(BL n5 (AU x10 x11 x17).length)) rfl (fun _ _ h=>Ad h) ?_;refine .a 4 ?_;refine .nK [1,2,6,7,17,18] ?_;exact⟨kq13,Nat.lt_succ_self _,x16,(AU x10 x11 x17),(AG (x11+(1:Int))),rfl,rfl,by rw[hrec12];exact h⟩
  refine .a 1 ?_;refine .eH [6,7] (H':=[(n4,(.map (Am Value.string AB x9))),(n5,(Z3 x10))]) (.cons 1 rfl (.cons 1 rfl (.nil _))) ?_;exact⟨x9,x10,rfl,rfl,h⟩
 rintro _ _ ⟨x7,x8,rfl,rfl,h⟩;rw[MS.eq_1]at h;refine .a 4 ?_;refine .c (x:=AB (x7.length:Int)) (.lenMap 0 rfl rfl rfl Tryz.underlying97) ?_;refine .a 2 ?_;refine .nS [4,5] [1] ?_;refine .freezeS 0 [(4,(.fz 1 (x8.map AB)))] rfl ⟨Aj rfl,trivial⟩ ?_;refine .rK [4,5] ?_;have hr:=Option.some.inj h;subst hr;exact⟨[(.fz 1 (x8.map AB)),(AB (x7.length:Int))],⟨rfl,rfl,rfl,rfl,trivial⟩,rfl⟩
def E8 (k:Nat) (p0:AI):Nat→(List Int)→Int→Option (List Int)
 | 0,_,_=>none
 | j+1,x7,x8=>
   (Yk k p0 x7).bind fun t11=>
   if t11.2=x8 then if 0≤(0:Int)∧(0:Int)≤(p0.f1.length:Int)∧(p0.f1.length:Int)≤(t11.1.length:Int)then some ((EB t11.1 (0:Int) (p0.f1.length:Int)))
   else none
   else(E8 k p0 j) t11.1 t11.2
def Y8 (k:Nat) (p0:AI):Option (List Int):=
 (R6 k p0).bind fun t3=>
 if(!t3)=true then some ([])
 else(S7 k p0).bind fun t5=>
 (Yk k p0 t5).bind fun t6=>
 E8 k p0 k t6.1 t6.2
theorem SV {k:Nat} {p0:AI} {r:(List Int)} (h:Y8 k p0=some r):AY Tryz.prog 75 [(Ak p0)] (Ce r):=by
 rw[Y8.eq_1]at h;refine AY.intro (res:=[.tmp 2]) Tryz.func75 rfl rfl rfl (Nat.le_of_ble_eq_true rfl) ?_;refine .sr ?_;refine .box rfl 1 rfl (by decide) rfl rfl rfl fun n2=>?_;refine .a 6 ?_;obtain⟨t3,et3,h⟩:=ob h;refine .callS [(Ak p0)] (AD t3) 8 rfl (by decide) Zv rfl rfl rfl ⟨rfl,rfl,trivial⟩ (NR et3) ?_;refine .a 2 ?_;rcases oi h with⟨c4,h⟩|⟨c4,h⟩
 ·refine .a 4 ?_;refine .nS [2] [] ?_;refine .coeC 2 (y':=(Df ([]:List Int))) rfl Hi.nil ?_;refine .rK [2] ?_;cases h;exact⟨[(Df ([]:List Int))],⟨rfl,rfl,trivial⟩,rfl⟩
 refine .a 3 ?_;obtain⟨t5,et5,h⟩:=ob h;obtain⟨t6,et6,h⟩:=ob h;refine .regAny (by rfl) (by decide+kernel) [(Ak p0),(Ak p0),(.fz 1 (t5.map AB)),(.tup [(.fz 1 (t6.1.map AB)),(AB t6.2)]),(.tup [(.fz 1 (t6.1.map AB)),(AB t6.2)]),(.fz 1 (t6.1.map AB)),(AB t6.2),(.fz 1 (t6.1.map AB)),(AB t6.2)] [(1,(.ptr n2 0))] ⟨rfl,trivial⟩ rfl ?_ [(1,(.ptr n2 0)),(3,(.fz 1 (t6.1.map AB))),(4,(AB t6.2))] [(n2,(.mem (Ak p0)))] ⟨rfl,rfl,rfl,trivial⟩ (.refl _) ?_
 ·refine⟨?_,?_,?_,?_,?_,?_,?_,?_,?_,trivial⟩
  ·refine .a 1 ?_;exact .q 11
  ·refine .a 1 ?_;exact .q 12
  ·refine .wK [12] ?_;refine .callS [(Ak p0)] (.fz 1 (t5.map AB)) 13 rfl (by decide) ZI rfl rfl rfl ⟨rfl,rfl,trivial⟩ (RV et5) ?_;exact .q 13
  ·refine .wK [11,13] ?_;refine .callS [(Ak p0),(.fz 1 (t5.map AB))] (.tup [(.fz 1 (t6.1.map AB)),(AB t6.2)]) 14 rfl (by decide) ZF rfl rfl rfl ⟨rfl,rfl,rfl,rfl,trivial⟩ (Og et6) ?_;exact .q 14
  ·refine .a 1 ?_;exact .q 10
  ·refine .a 1 ?_;exact .q 15
  ·refine .a 1 ?_;exact .q 16
  ·refine .a 1 ?_;exact .q 3
  refine .a 1 ?_;exact .q 4
 refine .a 1 ?_;refine .wK [1,3,4] ?_;refine .loop (fun kq ρ H=>∃ (x7:(List Int)) (x8:Int),ρ=[(1,(.ptr n2 0)),(3,(.fz 1 (x7.map AB))),(4,(AB x8))]∧H=[(n2,(.mem (Ak p0)))]∧E8 k p0 kq x7 x8=some r) k ⟨t6.1,t6.2,rfl,rfl,h⟩ ?_;rintro kq10 _ _ ⟨x7,x8,rfl,rfl,h⟩
 cases kq10 with
 | zero=>rw[E8.eq_1]at h;cases h
 | succ kq10=>
 rw[E8.eq_2]at h;generalize hrec9:E8 k p0 kq10=rec9 at h;refine .a 5 ?_;obtain⟨t11,et11,h⟩:=ob h;refine .callS [(Ak p0),(.fz 1 (x7.map AB))] (.tup [(Df t11.1),(AB t11.2)]) 20 rfl (by decide) ZF rfl rfl rfl ⟨rfl,rfl,rfl,rfl,trivial⟩ (Og et11) ?_;refine .a 18 ?_;rcases oi h with⟨c12,h⟩|⟨c12,h⟩
 ·refine .a 7 ?_;obtain⟨g13,h⟩:=AC h;refine .c (x:=.fz 1 ((EB t11.1 (0:Int) (p0.f1.length:Int)).map AB)) (.sliceL rfl rfl rfl rfl g13 Tryz.underlying40 Bb) ?_;refine .a 1 ?_;refine .nS [2] [] ?_;refine .rK [2] ?_;cases h;exact⟨[(Df (EB t11.1 (0:Int) (p0.f1.length:Int)))],⟨rfl,rfl,trivial⟩,rfl⟩
 refine .a 5 ?_;refine .nK [1,3,4] ?_;exact⟨kq10,Nat.lt_succ_self _,t11.1,t11.2,rfl,rfl,by rw[hrec9];exact h⟩
def MU (k:Nat) (x4:ByteArray):Option ByteArray:=
 some (x4)
def Dd (k:Nat) (p0:AI) (p1:Int):Nat→ByteArray→Int→Option ByteArray
 | 0,_,_=>none
 | j+1,x5,x6=>
   if x6<(p0.f1.length:Int)then if 0≤x6∧x6<(p0.f1.length:Int)then if 0≤p1∧p1<((AA p0.f1 x6).length:Int)then(O4 k (AG ((AA (AA p0.f1 x6) p1)+(1:Int)))).bind fun t12=>
   if x5.size+t12.size≤9223372036854775807 then(Dd k p0 p1 j) (x5++t12) (AG (x6+(1:Int)))
   else none
   else none
   else none
   else MU k x5
def V8 (k:Nat) (p0:AI) (p1:Int):Option ByteArray:=
 Dd k p0 p1 k (ByteArray.mk #[]) (0:Int)
theorem RU {k:Nat} {p0:AI} {p1:Int} {r:ByteArray} (h:V8 k p0 p1=some r):AY Tryz.prog 101 [(Ak p0),(AB p1)] (AN r):=by
 rw[V8.eq_1]at h;refine AY.intro (res:=[.tmp 4]) Tryz.func101 rfl rfl rfl (Nat.le_of_ble_eq_true rfl) ?_;refine .sr ?_;refine .box rfl 2 rfl (by decide) rfl rfl rfl fun n3=>?_;refine .a 5 ?_;refine .nK [1,2,5] ?_;refine .seq_mid (fun ρ H=>∃ (x4:ByteArray),ρ=[(5,(AN x4))]∧H=[]∧MU k x4=some r) ?_ ?_
 ·refine .a 6 ?_;refine .nS [1,5,9,10,11] [] ?_;refine .a 1 ?_;refine .wK [1,5,9,10,11] ?_;refine .loop (fun kq ρ H=>∃ (x5:ByteArray) (x6:Int),ρ=[(1,(AB p1)),(5,(AN x5)),(9,(.fz 1 (p0.f1.map Ce))),(10,(AB (p0.f1.length:Int))),(11,(AB x6))]∧H=[]∧Dd k p0 p1 kq x5 x6=some r) k ⟨(ByteArray.mk #[]),(0:Int),rfl,rfl,h⟩ ?_;rintro kq8 _ _ ⟨x5,x6,rfl,rfl,h⟩
  cases kq8 with
  | zero=>rw[Dd.eq_1]at h;cases h
  | succ kq8=>
  rw[Dd.eq_2]at h;generalize hrec7:Dd k p0 p1 kq8=rec7 at h;refine .a 5 ?_;rcases oi h with⟨c9,h⟩|⟨c9,h⟩
  ·refine .a 6 ?_;obtain⟨g10,h⟩:=AC h;refine .a 8 ?_;obtain⟨g11,h⟩:=AC h;refine .a 3 ?_;obtain⟨t12,et12,h⟩:=ob h;refine .callS [(AB (AG ((AA (AA p0.f1 x6) p1)+(1:Int))))] (AN t12) 21 rfl (by decide) T5 rfl rfl rfl ⟨rfl,rfl,trivial⟩ (IK et12) ?_;obtain⟨g13,h⟩:=AC h;refine .c (x:=AN (x5++t12)) (.cat rfl rfl rfl g13) ?_;refine .a 5 ?_;refine .nK [1,5,9,10,11] ?_;exact⟨kq8,Nat.lt_succ_self _,(x5++t12),(AG (x6+(1:Int))),rfl,rfl,by rw[hrec7];exact h⟩
  refine .a 1 ?_;refine .eK [5] ?_;exact⟨x5,rfl,rfl,h⟩
 rintro _ _ ⟨x4,rfl,rfl,h⟩;rw[MU.eq_1]at h;refine .a 4 ?_;refine .nK [4] ?_;refine .rK [4] ?_;have hr:=Option.some.inj h;subst hr;exact⟨[(AN x4)],⟨rfl,rfl,trivial⟩,rfl⟩
end Go.Avl.T8
