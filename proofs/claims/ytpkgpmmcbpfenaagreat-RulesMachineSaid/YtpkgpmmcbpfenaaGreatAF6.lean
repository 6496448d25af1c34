/- Parts: T8f76, T8f40, T8f12, T8f44, T8f16, T8f15, T8f62, T8f35, T8f10, T8f11, T8f110, T8f111, T8f83. -/
import Derived.Test.YtpkgpmmcbpfenaaGreatAF1
import Derived.Test.YtpkgpmmcbpfenaaGreatAF4
import Derived.Test.YtpkgpmmcbpfenaaGreatAF5
import Derived.Test.YtpkgpmmcbpfenaaGreatAF2
namespace Go.Avl.T8
open Go Go.RowKit Go.Proofs Go.Avl
set_option linter.unusedVariables false
set_option maxRecDepth 100000
set_option maxHeartbeats 4000000
attribute [local irreducible] AW AO AQ AY Aq AH
def Or (k:Nat) (p0:AI) (x11:(Vector Int 256)) (x15:(List (List Int))):Option AI:=
 some ((AI.mk x11 x15 p0.f2))
def L4 (k:Nat) (rec19:((List (List Int))→Int→Option AI)) (x18:Int) (x23:(List (List Int))):Option AI:=
 rec19 x23 (AG (x18+(1:Int)))
def MZ (k:Nat) (rec19:((List (List Int))→Int→Option AI)) (x17:(List (List Int))) (x18:Int) (x26:(List Int)):Option AI:=
 if(x17++([x26]:List (List Int))).length*24≤140737488355328 then L4 k rec19 x18 (x17++([x26]:List (List Int)))
 else none
def Fd (k:Nat) (rec19:((List (List Int))→Int→Option AI)) (p0:AI) (x13:(List Int)) (x17:(List (List Int))) (x18:Int):Nat→(List Int)→Int→Option AI
 | 0,_,_=>none
 | j+1,x31,x32=>
   if x32<(x13.length:Int)then if 0≤x32∧x32<(x13.length:Int)then if 0≤(AA x13 x32)∧(AA x13 x32)<((AA p0.f1 x18).length:Int)then if(x31++([(AA (AA p0.f1 x18) (AA x13 x32))]:List Int)).length*8≤140737488355328 then(Fd k rec19 p0 x13 x17 x18 j) (x31++([(AA (AA p0.f1 x18) (AA x13 x32))]:List Int)) (AG (x32+(1:Int)))
   else none
   else none
   else none
   else MZ k rec19 x17 x18 x31
def EP (k:Nat) (p0:AI) (x11:(Vector Int 256)) (x13:(List Int)):Nat→(List (List Int))→Int→Option AI
 | 0,_,_=>none
 | j+1,x17,x18=>
   if x18<(p0.f1.length:Int)then if 0≤x18∧x18<(p0.f1.length:Int)then Fd k (EP k p0 x11 x13 j) p0 x13 x17 x18 k ([]:List Int) (0:Int)
   else none
   else Or k p0 x11 x17
def Gr (k:Nat) (p0:AI) (x11:(Vector Int 256)) (x13:(List Int)):Option AI:=
 EP k p0 x11 x13 k ([]:List (List Int)) (0:Int)
def Hv (k:Nat) (rec50:((Vector Int 256)→(List (ByteArray×Int))→(List Int)→(List Int)→(List Bool)→Int→Option AI)) (p0:AI) (x43:(Vector Int 256)) (x49:Int) (x54:(List (ByteArray×Int))) (x56:(List Int)) (x57:(List Int)) (x58:(List Bool)):Option AI:=
 if 0≤(AG (AZ p0.f0 x49))∧(AG (AZ p0.f0 x49))<(x57.length:Int)then if 0≤x49∧x49<(256:Int)then rec50 (BP x43 x49 (w8 (AA x57 (AG (AZ p0.f0 x49))))) x54 x56 x57 x58 (AG (x49+(1:Int)))
 else none
 else none
def IG (k:Nat) (rec50:((Vector Int 256)→(List (ByteArray×Int))→(List Int)→(List Int)→(List Bool)→Int→Option AI)) (p0:AI) (x43:(Vector Int 256)) (x47:(List Int)) (x48:(List Bool)) (x49:Int) (x64:(List (ByteArray×Int))) (x66:(List Int)) (x67:Int):Option AI:=
 if 0≤(AG (AZ p0.f0 x49))∧(AG (AZ p0.f0 x49))<(x47.length:Int)then if 0≤(AG (AZ p0.f0 x49))∧(AG (AZ p0.f0 x49))<(x48.length:Int)then Hv k rec50 p0 x43 x49 x64 x66 (AU x47 (AG (AZ p0.f0 x49)) x67) (AU x48 (AG (AZ p0.f0 x49)) true)
 else none
 else none
def Cp (k:Nat) (p0:AI):Nat→(Vector Int 256)→(List (ByteArray×Int))→(List Int)→(List Int)→(List Bool)→Int→Option AI
 | 0,_,_,_,_,_,_=>none
 | j+1,x43,x44,x46,x47,x48,x49=>
   if x49<(256:Int)then if 0≤x49∧x49<(256:Int)then if 0≤(AG (AZ p0.f0 x49))∧(AG (AZ p0.f0 x49))<(x48.length:Int)then if(!(AA x48 (AG (AZ p0.f0 x49))))=true then(V8 k p0 (AG (AZ p0.f0 x49))).bind fun t63=>
   if(!((Ay x44 t63).isSome))=true then if(x46++([(AG (AZ p0.f0 x49))]:List Int)).length*8≤140737488355328 then IG k (Cp k p0 j) p0 x43 x47 x48 x49 (BE x44 t63 (x46.length:Int)) (x46++([(AG (AZ p0.f0 x49))]:List Int)) (x46.length:Int)
   else none
   else IG k (Cp k p0 j) p0 x43 x47 x48 x49 x44 x46 ((Ay x44 t63).getD (0:Int))
   else Hv k (Cp k p0 j) p0 x43 x49 x44 x46 x47 x48
   else none
   else none
   else Gr k p0 x43 x46
def Ye (k:Nat) (p0:AI):Option AI:=
 (Wk k p0.f0).bind fun t6=>
 if 0≤t6∧t6*(8:Int)≤140737488355328∧t6≤9223372036854775807 then if 0≤((List.replicate t6.toNat (0:Int)).length:Int)∧((List.replicate t6.toNat (0:Int)).length:Int)*(1:Int)≤140737488355328∧((List.replicate t6.toNat (0:Int)).length:Int)≤9223372036854775807 then Cp k p0 k (Vector.replicate 256 (0:Int)) ([]:List (ByteArray×Int)) ([]:List Int) (List.replicate t6.toNat (0:Int)) (List.replicate ((List.replicate t6.toNat (0:Int)).length:Int).toNat false) (0:Int)
 else none
 else none
theorem SQ {k:Nat} {p0:AI} {r:AI} (h:Ye k p0=some r):AY Tryz.prog 76 [(Ak p0)] (Ak r):=by
 rw[Ye.eq_1]at h;refine AY.intro (res:=[.cell 2 42]) Tryz.func76 rfl rfl rfl (Nat.le_of_ble_eq_true rfl) ?_;refine .sr ?_;refine .box rfl 1 rfl (by decide) rfl rfl rfl fun n2=>?_;refine .alloc rfl 2 rfl (by decide) rfl CY BV fun n3=>?_;refine .nS [1,2] [1,0] ?_;refine .a 4 ?_;refine .c (x:=(SA ((Vector.replicate 256 (0:Int)).toList.map AK) p0.f2)) (.build (qs:=[(2,(Df p0.f2))]) rfl ⟨rfl,rfl,rfl,trivial⟩ Tryz.underlying42 rfl CY BV (.cons rfl rfl rfl rfl (.cast (.fldS (.fldS (.fld0 .here))) rfl) .nil) rfl) ?_;refine .alloc rfl 3 rfl (by decide) rfl CY BV fun n4=>?_;refine .store 0 rfl rfl rfl rfl rfl rfl (.cast .here rfl) rfl rfl BQ rfl ?_;refine .nS [1,2,3] [1,2,0] ?_;refine .sr ?_;refine .makeMap rfl 21 rfl (by decide) rfl fun n5=>?_;refine .a 1 ?_;refine .nS [1,2,3,4] [1,2,3,0] ?_;refine .a 8 ?_;obtain⟨t6,et6,h⟩:=ob h;refine .callS [(.ar 1 (p0.f0.toList.map AK))] (AB t6) 24 rfl (by decide) Xf rfl rfl rfl ⟨rfl,rfl,trivial⟩ (J2 et6) ?_;obtain⟨g8,h⟩:=AC h;refine .makeL (f:=AB) (0:Int) rfl 25 rfl (by decide) rfl rfl rfl Tryz.underlying40 Bb KP Fj DT rfl g8 fun n7=>?_;refine .a 1 ?_;refine .nS [1,2,3,4,5,6] [1,2,3,4,0] ?_;refine .a 4 ?_;obtain⟨g10,h⟩:=AC h;refine .makeL (f:=AD) false rfl 28 rfl (by decide) rfl rfl rfl Tryz.underlying95 Bw KI G3 D9 rfl g10 fun n9=>?_;refine .a 1 ?_;refine .nS [1,2,3,4,5,6,7] [1,2,3,4,5,0] ?_
 refine .seq_mid (fun ρ H=>∃ (n12:Nat) (x11:(Vector Int 256)) (x13:(List Int)),ρ=[(1,(.ptr n2 0)),(2,(.ptr n3 0)),(3,(.ptr n4 0)),(5,(.own n12 0 x13.length))]∧H=[(n2,(.mem (Ak p0))),(BA n3 ((Vector.replicate 256 (0:Int)).toList.map AK)),(n4,(.mem (SA (x11.toList.map AK) p0.f2))),(n12,(Z3 x13))]∧Gr k p0 x11 x13=some r) ?_ ?_
 ·refine .a 5 ?_;refine .nilOwn 5 1 rfl fun n74=>?_;refine .wH [1,2,3,4,5,6,7,29] (H':=[(n2,(.mem (Ak p0))),(BA n3 ((Vector.replicate 256 (0:Int)).toList.map AK)),(n4,(.mem (SA ((Vector.replicate 256 (0:Int)).toList.map AK) p0.f2))),(n5,(.map (Am Value.string AB ([]:List (ByteArray×Int))))),(n74,(Z3 ([]:List Int))),(n7,(Z3 (List.replicate t6.toNat (0:Int)))),(Z9 n9 (List.replicate ((List.replicate t6.toNat (0:Int)).length:Int).toNat false))]) (.cons 1 rfl (.cons 1 rfl (.cons 1 rfl (.cons 1 rfl (.cons 0 rfl (.cons 0 rfl (.cons 0 rfl (.nil _)))))))) ?_;refine .loop (fun kq ρ H=>∃ (n45:Nat) (x43:(Vector Int 256)) (x44:(List (ByteArray×Int))) (x46:(List Int)) (x47:(List Int)) (x48:(List Bool)) (x49:Int),ρ=[(1,(.ptr n2 0)),(2,(.ptr n3 0)),(3,(.ptr n4 0)),(4,(.mp n5)),(5,(.own n45 0 x46.length)),(6,(.own n7 0 x47.length)),(7,(.own n9 0 x48.length)),(29,(AB x49))]∧H=[(n2,(.mem (Ak p0))),(BA n3 ((Vector.replicate 256 (0:Int)).toList.map AK)),(n4,(.mem (SA (x43.toList.map AK) p0.f2))),(n5,(.map (Am Value.string AB x44))),(n45,(Z3 x46)),(n7,(Z3 x47)),(Z9 n9 x48)]∧Cp k p0 kq x43 x44 x46 x47 x48 x49=some r) k ⟨n74,(Vector.replicate 256 (0:Int)),([]:List (ByteArray×Int)),([]:List Int),(List.replicate t6.toNat (0:Int)),(List.replicate ((List.replicate t6.toNat (0:Int)).length:Int).toNat false),(0:Int),rfl,rfl,h⟩ ?_;rintro kq51 _ _ ⟨n45,x43,x44,x46,x47,x48,x49,rfl,rfl,h⟩
  cases kq51 with
  | zero=>rw[Cp.eq_1]at h;cases h
  | succ kq51=>
  rw[Cp.eq_2]at h;generalize hrec50:Cp k p0 kq51=rec50 at h;refine .a 5 ?_;rcases oi h with⟨c52,h⟩|⟨c52,h⟩
  ·refine .a 13 ?_;obtain⟨g53,h⟩:=AC h;refine .c (.idxP rfl rfl rfl g53 Tryz.underlying38 Ew) ?_;refine .c (.load 0 rfl rfl rfl (.cast (.fld0 (.vidx x49 g53.1 g53.2 .here)) (by omega)) Ol Ew) ?_;refine .c (x:=AB (AG (AZ p0.f0 x49))) (.conv rfl rfl Tryz.underlying5 Tryz.underlying3) ?_;refine .ag rfl rfl ?_;refine .nK [1,2,3,4,5,6,7,8,9,29] ?_;refine .seq_mid (fun ρ H=>∃ (n55:Nat) (x54:(List (ByteArray×Int))) (x56:(List Int)) (x57:(List Int)) (x58:(List Bool)),ρ=[(1,(.ptr n2 0)),(2,(.ptr n3 0)),(3,(.ptr n4 0)),(4,(.mp n5)),(5,(.own n55 0 x56.length)),(6,(.own n7 0 x57.length)),(7,(.own n9 0 x58.length)),(8,(AB x49)),(9,(AB (AG (AZ p0.f0 x49)))),(29,(AB x49))]∧H=[(n2,(.mem (Ak p0))),(BA n3 ((Vector.replicate 256 (0:Int)).toList.map AK)),(n4,(.mem (SA (x43.toList.map AK) p0.f2))),(n5,(.map (Am Value.string AB x54))),(n55,(Z3 x56)),(n7,(Z3 x57)),(Z9 n9 x58)]∧Hv k rec50 p0 x43 x49 x54 x56 x57 x58=some r) ?_ ?_
   ·refine .a 4 ?_;obtain⟨g61,h⟩:=AC h;refine .c (.idxO 6 rfl rfl rfl rfl g61 Tryz.underlying95 Bw) ?_;refine .c (.load 6 rfl rfl rfl (.cast (.lidx (AG (AZ p0.f0 x49)) g61.1 g61.2 .here) (by omega)) TF Bw) ?_;refine .c (.not rfl rfl) ?_;refine .nK [1,2,3,4,5,6,7,8,9,29,41] ?_;rcases oi h with⟨c62,h⟩|⟨c62,h⟩
    ·refine .a 5 ?_;obtain⟨t63,et63,h⟩:=ob h;refine .callS [(Ak p0),(AB (AG (AZ p0.f0 x49)))] (AN t63) 44 rfl (by decide) ZO rfl rfl rfl ⟨rfl,rfl,rfl,rfl,trivial⟩ (RU et63) ?_;refine .a 6 ?_;refine .c (x:=.tup [(AB ((Ay x44 t63).getD (0:Int))),(AD ((Ay x44 t63).isSome))]) (.look2 (f:=AB) BO BN (0:Int) 3 rfl rfl rfl rfl Tryz.underlying97 Tryz.underlying9 Ym) ?_;refine .a 5 ?_;refine .nK [1,2,3,4,5,6,7,8,9,10,11,12,29] ?_;refine .seq_mid (fun ρ H=>∃ (n65:Nat) (x64:(List (ByteArray×Int))) (x66:(List Int)) (x67:Int),ρ=[(1,(.ptr n2 0)),(2,(.ptr n3 0)),(3,(.ptr n4 0)),(4,(.mp n5)),(5,(.own n65 0 x66.length)),(6,(.own n7 0 x47.length)),(7,(.own n9 0 x48.length)),(8,(AB x49)),(9,(AB (AG (AZ p0.f0 x49)))),(11,(AB x67)),(29,(AB x49))]∧H=[(n2,(.mem (Ak p0))),(BA n3 ((Vector.replicate 256 (0:Int)).toList.map AK)),(n4,(.mem (SA (x43.toList.map AK) p0.f2))),(n5,(.map (Am Value.string AB x64))),(n65,(Z3 x66)),(n7,(Z3 x47)),(Z9 n9 x48)]∧IG k rec50 p0 x43 x47 x48 x49 x64 x66 x67=some r) ?_ ?_
     ·refine .a 5 ?_;rcases oi h with⟨c70,h⟩|⟨c70,h⟩
      ·refine .a 12 ?_;refine .mapPut (f:=AB) BO BN 3 rfl rfl rfl rfl rfl rfl rfl rfl Tryz.underlying97 Tryz.underlying9 ?_;refine .a 4 ?_;refine .lit (Z:=(AB (0:Int))) (xs:=(([(AG (AZ p0.f0 x49))]:List Int).map AB)) (qs:=[(0,(AB (AG (AZ p0.f0 x49))))]) rfl 60 rfl (by decide) rfl ⟨rfl,rfl,rfl,trivial⟩ Tryz.underlying40 Bb Fj DT rfl (by decide) (An (z:=1) [(AB (AG (AZ p0.f0 x49)))] rfl ⟨⟨rfl,rfl⟩,trivial⟩) rfl fun n71=>?_;obtain⟨g73,h⟩:=AC h;refine .appendL (l:=x46) (m:=([(AG (AZ p0.f0 x49))]:List Int)) 5 61 rfl (by decide) rfl rfl rfl rfl rfl (CS.ownL (f:=AB) (l:=([(AG (AZ p0.f0 x49))]:List Int)) 0 rfl) Tryz.underlying40 Tryz.underlying40 Bb KP Fj rfl g73 (by decide) fun n72=>?_;refine .a 1 ?_;refine .nS [1,2,3,4,5,6,7,8,9,11,29] [1,2,3,4,5,6,7] ?_;exact⟨n72,(BE x44 t63 (x46.length:Int)),(x46++([(AG (AZ p0.f0 x49))]:List Int)),(x46.length:Int),rfl,rfl,h⟩
      refine .a 1 ?_;refine .sK [1,2,3,4,5,6,7,8,9,11,29] ?_;exact⟨n45,x44,x46,((Ay x44 t63).getD (0:Int)),rfl,rfl,h⟩
     rintro _ _ ⟨n65,x64,x66,x67,rfl,rfl,h⟩;rw[IG.eq_1]at h;refine .a 6 ?_;obtain⟨g68,h⟩:=AC h;refine .a 1 ?_;refine .store 5 rfl rfl rfl rfl rfl rfl (.cast (.lidx (AG (AZ p0.f0 x49)) x67 g68.1 g68.2 .here) (by omega)) rfl rfl Bb rfl ?_;refine .coe 6 (y':=(BL n7 (AU x47 (AG (AZ p0.f0 x49)) x67).length)) rfl (fun _ _ h=>Ad h) ?_;refine .coe 62 (y':=(BL n7 (AU x47 (AG (AZ p0.f0 x49)) x67).length)) rfl (fun _ _ h=>Ad h) ?_;obtain⟨g69,h⟩:=AC h;refine .a 1 ?_;refine .store 6 rfl rfl rfl rfl rfl rfl (.cast (.lidx (AG (AZ p0.f0 x49)) true g69.1 g69.2 .here) (by omega)) rfl rfl Bw rfl ?_;refine .coe 7 (y':=(BL n9 (AU x48 (AG (AZ p0.f0 x49)) true).length)) rfl (fun _ _ h=>Ad h) ?_;refine .coe 64 (y':=(BL n9 (AU x48 (AG (AZ p0.f0 x49)) true).length)) rfl (fun _ _ h=>Ad h) ?_;refine .nK [1,2,3,4,5,6,7,8,9,29] ?_;exact⟨n65,x64,x66,(AU x47 (AG (AZ p0.f0 x49)) x67),(AU x48 (AG (AZ p0.f0 x49)) true),rfl,rfl,h⟩
    refine .a 1 ?_;refine .sK [1,2,3,4,5,6,7,8,9,29] ?_;exact⟨n45,x44,x46,x47,x48,rfl,rfl,h⟩
   rintro _ _ ⟨n55,x54,x56,x57,x58,rfl,rfl,h⟩;rw[Hv.eq_1]at h;refine .a 4 ?_;obtain⟨g59,h⟩:=AC h;refine .c (.idxO 5 rfl rfl rfl rfl g59 Tryz.underlying40 Bb) ?_;refine .c (.load 5 rfl rfl rfl (.cast (.lidx (AG (AZ p0.f0 x49)) g59.1 g59.2 .here) (by omega)) Rl Bb) ?_;refine .c (x:=AK (w8 (AA x57 (AG (AZ p0.f0 x49))))) (.conv rfl rfl Tryz.underlying3 Tryz.underlying5) ?_;refine .c (x:=.ptr n4 0) (.fldPtr rfl rfl Tryz.underlying42 rfl UP _ rfl) ?_;obtain⟨g60,h⟩:=AC h;refine .c (.idxP rfl rfl rfl g60 Tryz.underlying38 Ew) ?_;refine .store 2 rfl rfl rfl rfl rfl rfl (.cast (.fld0 (.vidx x49 (w8 (AA x57 (AG (AZ p0.f0 x49)))) g60.1 g60.2 .here)) (by omega)) rfl rfl Ew rfl ?_;refine .a 4 ?_;refine .nK [1,2,3,4,5,6,7,29] ?_;exact⟨kq51,Nat.lt_succ_self _,n55,(BP x43 x49 (w8 (AA x57 (AG (AZ p0.f0 x49))))),x54,x56,x57,x58,(AG (x49+(1:Int))),rfl,rfl,by rw[hrec50];exact h⟩
  refine .a 1 ?_;refine .eH [1,2,3,5] (H':=[(n2,(.mem (Ak p0))),(BA n3 ((Vector.replicate 256 (0:Int)).toList.map AK)),(n4,(.mem (SA (x43.toList.map AK) p0.f2))),(n45,(Z3 x46))]) (.cons 0 rfl (.cons 0 rfl (.cons 0 rfl (.cons 1 rfl (.nil _))))) ?_;exact⟨n45,x43,x46,rfl,rfl,h⟩
 rintro _ _ ⟨n12,x11,x13,rfl,rfl,h⟩;rw[Gr.eq_1]at h;refine .seq_mid (fun ρ H=>∃ (n14:Nat) (x15:(List (List Int))),ρ=[(2,(.ptr n3 0)),(3,(.ptr n4 0))]∧H=[(BA n3 ((Vector.replicate 256 (0:Int)).toList.map AK)),(N8 n4 (x11.toList.map AK) n14 x15.length p0.f2),(Z5 n14 x15)]∧Or k p0 x11 x15=some r) ?_ ?_
 ·refine .a 6 ?_;refine .nS [2,3,5,79,80,81] [1,2,3] ?_;refine .a 1 ?_;refine .nilOwnFld 1 1 (fun n42=>(.st [(256,(.ar 1 (x11.toList.map AK))),(1,(.own n42 0 0)),(1,(Df p0.f2))])) rfl (fun _=>(.cast (.fldS (.fld0 .here)) rfl)) (fun _=>rfl) (fun _=>rfl) fun n42=>?_;refine .wH [2,3,5,79,80,81] (H':=[(BA n3 ((Vector.replicate 256 (0:Int)).toList.map AK)),(N8 n4 (x11.toList.map AK) n42 ([]:List (List Int)).length p0.f2),(Z5 n42 ([]:List (List Int))),(n12,(Z3 x13))]) (.cons 1 rfl (.cons 1 rfl (.cons 0 rfl (.cons 0 rfl (.nil _))))) ?_;refine .loop (fun kq ρ H=>∃ (n16:Nat) (x17:(List (List Int))) (x18:Int),ρ=[(2,(.ptr n3 0)),(3,(.ptr n4 0)),(5,(.own n12 0 x13.length)),(79,(.fz 1 (p0.f1.map Ce))),(80,(AB (p0.f1.length:Int))),(81,(AB x18))]∧H=[(BA n3 ((Vector.replicate 256 (0:Int)).toList.map AK)),(N8 n4 (x11.toList.map AK) n16 x17.length p0.f2),(Z5 n16 x17),(n12,(Z3 x13))]∧EP k p0 x11 x13 kq x17 x18=some r) k ⟨n42,([]:List (List Int)),(0:Int),rfl,rfl,h⟩ ?_;rintro kq20 _ _ ⟨n16,x17,x18,rfl,rfl,h⟩
  cases kq20 with
  | zero=>rw[EP.eq_1]at h;cases h
  | succ kq20=>
  rw[EP.eq_2]at h;generalize hrec19:EP k p0 x11 x13 kq20=rec19 at h;refine .a 5 ?_;rcases oi h with⟨c21,h⟩|⟨c21,h⟩
  ·refine .a 1 ?_;refine .sK [2,3,5,79,80,81] ?_;refine .seq_mid (fun ρ H=>∃ (n22:Nat) (x23:(List (List Int))),ρ=[(2,(.ptr n3 0)),(3,(.ptr n4 0)),(5,(.own n12 0 x13.length)),(79,(.fz 1 (p0.f1.map Ce))),(80,(AB (p0.f1.length:Int))),(81,(AB x18))]∧H=[(BA n3 ((Vector.replicate 256 (0:Int)).toList.map AK)),(N8 n4 (x11.toList.map AK) n22 x23.length p0.f2),(Z5 n22 x23),(n12,(Z3 x13))]∧L4 k rec19 x18 x23=some r) ?_ ?_
   ·refine .a 3 ?_;obtain⟨g24,h⟩:=AC h;refine .a 7 ?_;refine .nK [2,3,5,14,15,79,80,81] ?_;refine .seq_mid (fun ρ H=>∃ (n25:Nat) (x26:(List Int)),ρ=[(2,(.ptr n3 0)),(3,(.ptr n4 0)),(5,(.own n12 0 x13.length)),(15,(.own n25 0 x26.length)),(79,(.fz 1 (p0.f1.map Ce))),(80,(AB (p0.f1.length:Int))),(81,(AB x18))]∧H=[(BA n3 ((Vector.replicate 256 (0:Int)).toList.map AK)),(N8 n4 (x11.toList.map AK) n16 x17.length p0.f2),(Z5 n16 x17),(n12,(Z3 x13)),(n25,(Z3 x26))]∧MZ k rec19 x17 x18 x26=some r) ?_ ?_
    ·refine .a 7 ?_;refine .nilOwn 15 1 rfl fun n41=>?_;refine .wH [2,3,5,14,15,79,80,81,85,86,87] (H':=[(BA n3 ((Vector.replicate 256 (0:Int)).toList.map AK)),(N8 n4 (x11.toList.map AK) n16 x17.length p0.f2),(Z5 n16 x17),(n12,(Z3 x13)),(n41,(Z3 ([]:List Int)))]) (.cons 1 rfl (.cons 1 rfl (.cons 1 rfl (.cons 1 rfl (.cons 0 rfl (.nil _)))))) ?_;refine .loop (fun kq ρ H=>∃ (n30:Nat) (x31:(List Int)) (x32:Int),ρ=[(2,(.ptr n3 0)),(3,(.ptr n4 0)),(5,(.own n12 0 x13.length)),(14,(Df (AA p0.f1 x18))),(15,(.own n30 0 x31.length)),(79,(.fz 1 (p0.f1.map Ce))),(80,(AB (p0.f1.length:Int))),(81,(AB x18)),(85,(.own n12 0 x13.length)),(86,(AB (x13.length:Int))),(87,(AB x32))]∧H=[(BA n3 ((Vector.replicate 256 (0:Int)).toList.map AK)),(N8 n4 (x11.toList.map AK) n16 x17.length p0.f2),(Z5 n16 x17),(n12,(Z3 x13)),(n30,(Z3 x31))]∧Fd k rec19 p0 x13 x17 x18 kq x31 x32=some r) k ⟨n41,([]:List Int),(0:Int),rfl,rfl,h⟩ ?_;rintro kq34 _ _ ⟨n30,x31,x32,rfl,rfl,h⟩
     cases kq34 with
     | zero=>rw[Fd.eq_1]at h;cases h
     | succ kq34=>
     rw[Fd.eq_2]at h;generalize hrec33:Fd k rec19 p0 x13 x17 x18 kq34=rec33 at h;refine .a 5 ?_;rcases oi h with⟨c35,h⟩|⟨c35,h⟩
     ·refine .a 6 ?_;obtain⟨g36,h⟩:=AC h;refine .c (.idxO 3 rfl rfl rfl rfl g36 Tryz.underlying40 Bb) ?_;refine .c (.load 3 rfl rfl rfl (.cast (.lidx x32 g36.1 g36.2 .here) (by omega)) Rl Bb) ?_;refine .ag rfl rfl ?_;refine .nK [2,3,5,14,15,17,79,80,81,85,86,87] ?_;refine .reg ?_;refine .mv rfl rfl ?_;refine .mv rfl rfl ?_;refine .mv rfl rfl ?_;obtain⟨g37,h⟩:=AC h;refine .a 2 ?_;refine .lit (Z:=(AB (0:Int))) (xs:=(([(AA (AA p0.f1 x18) (AA x13 x32))]:List Int).map AB)) (qs:=[(0,(AB (AA (AA p0.f1 x18) (AA x13 x32))))]) rfl 96 rfl (by decide) rfl ⟨rfl,rfl,rfl,trivial⟩ Tryz.underlying40 Bb Fj DT rfl (by decide) (An (z:=1) [(AB (AA (AA p0.f1 x18) (AA x13 x32)))] rfl ⟨⟨rfl,rfl⟩,trivial⟩) rfl fun n38=>?_;obtain⟨g40,h⟩:=AC h;refine .appendL (l:=x31) (m:=([(AA (AA p0.f1 x18) (AA x13 x32))]:List Int)) 5 97 rfl (by decide) rfl rfl rfl rfl rfl (CS.ownL (f:=AB) (l:=([(AA (AA p0.f1 x18) (AA x13 x32))]:List Int)) 0 rfl) Tryz.underlying40 Tryz.underlying40 Bb KP Fj rfl g40 (by decide) fun n39=>?_;refine .a 1 ?_;refine .nS [2,3,5,14,15,79,80,81,85,86,87] [1,2,3,4,5] ?_;refine .a 3 ?_;refine .nK [2,3,5,14,15,79,80,81,85,86,87] ?_;exact⟨kq34,Nat.lt_succ_self _,n39,(x31++([(AA (AA p0.f1 x18) (AA x13 x32))]:List Int)),(AG (x32+(1:Int))),rfl,rfl,by rw[hrec33];exact h⟩
     refine .a 1 ?_;refine .eK [2,3,5,15,79,80,81] ?_;exact⟨n30,x31,rfl,rfl,h⟩
    rintro _ _ ⟨n25,x26,rfl,rfl,h⟩;rw[MZ.eq_1]at h;refine .a 4 ?_;refine .freezeS 4 [(15,(.fz 1 (x26.map AB))),(101,(.fz 1 (x26.map AB)))] rfl ⟨Aj rfl,Aj rfl,trivial⟩ ?_;refine .lit (Z:=(.fl (.slice none 0 0))) (xs:=(([x26]:List (List Int)).map Ce)) (qs:=[(0,(.fz 1 (x26.map AB)))]) rfl 102 rfl (by decide) rfl ⟨rfl,rfl,rfl,trivial⟩ Tryz.underlying39 HI KT Ng rfl (by decide) (An (z:=1) [(.fz 1 (x26.map AB))] rfl ⟨⟨rfl,rfl⟩,trivial⟩) rfl fun n27=>?_;obtain⟨g29,h⟩:=AC h;refine .appendL (l:=x17) (m:=([x26]:List (List Int))) 3 103 rfl (by decide) rfl rfl rfl rfl rfl (CS.ownL (f:=Ce) (l:=([x26]:List (List Int))) 0 rfl) Tryz.underlying39 Tryz.underlying39 HI Ud KT rfl g29 (by decide) fun n28=>?_;refine .a 1 ?_;refine .store 2 rfl rfl rfl rfl rfl rfl (.cast (.fldS (.fld0 .here)) rfl) rfl rfl KM rfl ?_;refine .nS [2,3,5,79,80,81] [1,2,3,4] ?_;exact⟨n28,(x17++([x26]:List (List Int))),rfl,rfl,h⟩
   rintro _ _ ⟨n22,x23,rfl,rfl,h⟩;rw[L4.eq_1]at h;refine .a 3 ?_;refine .nK [2,3,5,79,80,81] ?_;exact⟨kq20,Nat.lt_succ_self _,n22,x23,(AG (x18+(1:Int))),rfl,rfl,by rw[hrec19];exact h⟩
  refine .a 1 ?_;refine .eH [2,3] (H':=[(BA n3 ((Vector.replicate 256 (0:Int)).toList.map AK)),(N8 n4 (x11.toList.map AK) n16 x17.length p0.f2),(Z5 n16 x17)]) (.cons 0 rfl (.cons 0 rfl (.cons 0 rfl (.nil _)))) ?_;exact⟨n16,x17,rfl,rfl,h⟩
 rintro _ _ ⟨n14,x15,rfl,rfl,h⟩;rw[Or.eq_1]at h;refine .sr ?_;refine .freezeFld (X':=(PP (x11.toList.map AK) x15 p0.f2)) (els':=(x15.map Ce)) 2 1 rfl rfl (.cast (.fldS (.fld0 .here)) rfl) (by simp) (by rw[Be]) rfl rfl (by decide) ?_;refine .a 1 ?_;refine .store 0 rfl rfl rfl rfl rfl rfl (.cast .here rfl) rfl rfl BQ rfl ?_;refine .nS [2] [0] ?_;refine .rK [2] ?_;cases h;exact⟨[(Ak (AI.mk x11 x15 p0.f2))],⟨⟨_,0,rfl,rfl,E9,BQ⟩,trivial⟩,rfl⟩
end Go.Avl.T8
namespace Go.Avl.T8
open Go Go.RowKit Go.Proofs Go.Avl
set_option linter.unusedVariables false
set_option maxRecDepth 100000
set_option maxHeartbeats 4000000
set_option linter.unusedSimpArgs false
attribute [local irreducible] AW AO AQ AY Aq AH
def Mv (k:Nat) (t7:AI) (x11:(List (List Int))) (x13:(List Int)):Option (AI×Int):=
 (Ye k (AI.mk t7.f0 x11 x13)).bind fun t14=>
 (XK k t14).bind fun t15=>
 some (t15,(0:Int))
def Hr (k:Nat) (rec21:((List (List Int))→(List Int)→Int→Option (AI×Int))) (x20:Int) (x25:(List (List Int))) (x27:(List Int)):Option (AI×Int):=
 rec21 x25 x27 (AG (x20+(1:Int)))
def IE (k:Nat) (rec21:((List (List Int))→(List Int)→Int→Option (AI×Int))) (t7:AI) (x17:(List (List Int))) (x19:(List Int)) (x20:Int) (x31:(List Int)):Option (AI×Int):=
 if(x17++([x31]:List (List Int))).length*24≤140737488355328 then if 0≤x20∧x20<(t7.f2.length:Int)then if(x19++([(AA t7.f2 x20)]:List Int)).length*8≤140737488355328 then Hr k rec21 x20 (x17++([x31]:List (List Int))) (x19++([(AA t7.f2 x20)]:List Int))
 else none
 else none
 else none
def IA (k:Nat) (rec43:((List Int)→Int→Option (AI×Int))) (x41:(List Int)) (x42:Int) (x47:Int):Option (AI×Int):=
 if(x41++([x47]:List Int)).length*8≤140737488355328 then rec43 (x41++([x47]:List Int)) (AG (x42+(1:Int)))
 else none
def Dl (k:Nat) (rec21:((List (List Int))→(List Int)→Int→Option (AI×Int))) (t7:AI) (t8:(List Int)) (x17:(List (List Int))) (x19:(List Int)) (x20:Int):Nat→(List Int)→Int→Option (AI×Int)
 | 0,_,_=>none
 | j+1,x41,x42=>
   if x42<((AA t7.f1 x20).length:Int)then if 0≤x42∧x42<((AA t7.f1 x20).length:Int)then if(0:Int)≤(AA (AA t7.f1 x20) x42)then if 0≤(AA (AA t7.f1 x20) x42)∧(AA (AA t7.f1 x20) x42)<(t8.length:Int)then IA k (Dl k rec21 t7 t8 x17 x19 x20 j) x41 x42 (AA t8 (AA (AA t7.f1 x20) x42))
   else none
   else IA k (Dl k rec21 t7 t8 x17 x19 x20 j) x41 x42 (AA (AA t7.f1 x20) x42)
   else none
   else IE k rec21 t7 x17 x19 x20 x41
def Dp (k:Nat) (t7:AI) (t8:(List Int)):Nat→(List (List Int))→(List Int)→Int→Option (AI×Int)
 | 0,_,_,_=>none
 | j+1,x17,x19,x20=>
   if x20<(t7.f1.length:Int)then if 0≤x20∧x20<(t8.length:Int)then if(AA t8 x20)≠(x17.length:Int)then Hr k (Dp k t7 t8 j) x20 x17 x19
   else if 0≤x20∧x20<(t7.f1.length:Int)then Dl k (Dp k t7 t8 j) t7 t8 x17 x19 x20 k ([]:List Int) (0:Int)
   else none
   else none
   else Mv k t7 x17 x19
def Xh (k:Nat) (p0:AI):Option (AI×Int):=
 (R6 k p0).bind fun t4=>
 if(!t4)=true then some ((AI.mk (Vector.replicate 256 (0:Int)) ([]:List (List Int)) ([]:List Int)),(1:Int))
 else(aK k p0).bind fun t6=>
 (XK k t6).bind fun t7=>
 (Y8 k t7).bind fun t8=>
 Dp k t7 t8 k ([]:List (List Int)) ([]:List Int) (0:Int)
theorem Sr {k:Nat} {p0:AI} {r:(AI×Int)} (h:Xh k p0=some r):AY Tryz.prog 40 [(Ak p0)] (.tup [(Ak r.1),(AB r.2)]):=by
 rw[Xh.eq_1]at h;refine AY.intro (res:=[.cell 2 42,.tmp 3]) Tryz.func40 rfl rfl rfl (Nat.le_of_ble_eq_true rfl) ?_;refine .sr ?_;refine .box rfl 1 rfl (by decide) rfl rfl rfl fun n2=>?_;refine .alloc rfl 2 rfl (by decide) rfl CY BV fun n3=>?_;refine .a 1 ?_;refine .nS [1,2] [1,0] ?_;refine .a 4 ?_;obtain⟨t4,et4,h⟩:=ob h;refine .callS [(Ak p0)] (AD t4) 11 rfl (by decide) Zv rfl rfl rfl ⟨rfl,rfl,trivial⟩ (NR et4) ?_;refine .a 2 ?_;rcases oi h with⟨c5,h⟩|⟨c5,h⟩
 ·refine .a 3 ?_;refine .c (x:=(Z0 ((Vector.replicate 256 (0:Int)).toList.map AK))) (.build (qs:=[]) rfl trivial Tryz.underlying42 rfl CY BV .nil rfl) ?_;refine .store 1 rfl rfl rfl rfl rfl rfl (.cast .here rfl) rfl rfl BQ rfl ?_;refine .a 1 ?_;refine .nS [2,3] [1] ?_;refine .coeFld (X':=(Uz ((Vector.replicate 256 (0:Int)).toList.map AK) ([]:List (List Int)))) 0 rfl (.cast (.fldS (.fld0 .here)) rfl) rfl (Bc 1) rfl rfl ?_;refine .coeFld (X':=(PP ((Vector.replicate 256 (0:Int)).toList.map AK) ([]:List (List Int)) ([]:List Int))) 0 rfl (.cast (.fldS (.fldS (.fld0 .here))) rfl) rfl (Bc 1) rfl rfl ?_;refine .rK [2,3] ?_;cases h;exact⟨[(Ak (AI.mk (Vector.replicate 256 (0:Int)) ([]:List (List Int)) ([]:List Int))),(AB (1:Int))],⟨⟨_,0,rfl,rfl,E9,BQ⟩,rfl,rfl,trivial⟩,rfl⟩
 refine .a 5 ?_;obtain⟨t6,et6,h⟩:=ob h;refine .callS [(Ak p0)] (Ak t6) 15 rfl (by decide) bf rfl rfl rfl ⟨rfl,rfl,trivial⟩ (TW et6) ?_;obtain⟨t7,et7,h⟩:=ob h;refine .callS [(Ak t6)] (Ak t7) 16 rfl (by decide) ZG rfl rfl rfl ⟨rfl,rfl,trivial⟩ (NH et7) ?_;refine .store 0 rfl rfl rfl rfl rfl rfl (.cast .here rfl) rfl rfl BQ rfl ?_;refine .a 4 ?_;obtain⟨t8,et8,h⟩:=ob h;refine .callS [(Ak t7)] (.fz 1 (t8.map AB)) 18 rfl (by decide) bS rfl rfl rfl ⟨rfl,rfl,trivial⟩ (SV et8) ?_;refine .a 6 ?_;refine .c (x:=(Z0 (t7.f0.toList.map AK))) (.build (qs:=[(0,(.ar 1 (t7.f0.toList.map AK)))]) rfl ⟨rfl,rfl,rfl,trivial⟩ Tryz.underlying42 rfl CY BV (.cons rfl rfl (Ax _ _) (Ax _ _) (.cast (.fld0 .here) rfl) .nil) rfl) ?_;refine .alloc rfl 5 rfl (by decide) rfl CY BV fun n9=>?_;refine .store 0 rfl rfl rfl rfl rfl rfl (.cast .here rfl) rfl rfl BQ rfl ?_;refine .nS [1,2,4,5] [1,2,0] ?_;refine .seq_mid (fun ρ H=>∃ (n10:Nat) (n12:Nat) (x11:(List (List Int))) (x13:(List Int)),ρ=[(2,(.ptr n3 0)),(5,(.ptr n9 0))]∧H=[(BA n3 ((Vector.replicate 256 (0:Int)).toList.map AK)),(Z6 n9 (t7.f0.toList.map AK) n10 x11.length n12 x13.length),(Z5 n10 x11),(n12,(Z3 x13))]∧Mv k t7 x11 x13=some r) ?_ ?_
 ·refine .a 8 ?_;refine .nilOwnFld 2 1 (fun n54=>(.st [(256,(.ar 1 (t7.f0.toList.map AK))),(1,(.own n54 0 0)),(1,(.fl (.slice none 0 0)))])) rfl (fun _=>(.cast (.fldS (.fld0 .here)) rfl)) (fun _=>rfl) (fun _=>rfl) fun n54=>?_;refine .nilOwnFld 3 1 (fun n55=>(.st [(256,(.ar 1 (t7.f0.toList.map AK))),(1,(BL n54 ([]:List (List Int)).length)),(1,(.own n55 0 0))])) rfl (fun _=>(.cast (.fldS (.fldS (.fld0 .here))) rfl)) (fun _=>rfl) (fun _=>rfl) fun n55=>?_;refine .wH [1,2,4,5,24,25] (H':=[(n2,(.mem (Ak t7))),(BA n3 ((Vector.replicate 256 (0:Int)).toList.map AK)),(Z6 n9 (t7.f0.toList.map AK) n54 ([]:List (List Int)).length n55 ([]:List Int).length),(Z5 n54 ([]:List (List Int))),(n55,(Z3 ([]:List Int)))]) (.cons 2 rfl (.cons 2 rfl (.cons 2 rfl (.cons 1 rfl (.cons 0 rfl (.nil _)))))) ?_;refine .loop (fun kq ρ H=>∃ (n16:Nat) (n18:Nat) (x17:(List (List Int))) (x19:(List Int)) (x20:Int),ρ=[(1,(.ptr n2 0)),(2,(.ptr n3 0)),(4,(.fz 1 (t8.map AB))),(5,(.ptr n9 0)),(24,(AB (t7.f1.length:Int))),(25,(AB x20))]∧H=[(n2,(.mem (Ak t7))),(BA n3 ((Vector.replicate 256 (0:Int)).toList.map AK)),(Z6 n9 (t7.f0.toList.map AK) n16 x17.length n18 x19.length),(Z5 n16 x17),(n18,(Z3 x19))]∧Dp k t7 t8 kq x17 x19 x20=some r) k ⟨n54,n55,([]:List (List Int)),([]:List Int),(0:Int),rfl,rfl,h⟩ ?_;rintro kq22 _ _ ⟨n16,n18,x17,x19,x20,rfl,rfl,h⟩
  cases kq22 with
  | zero=>rw[Dp.eq_1]at h;cases h
  | succ kq22=>
  rw[Dp.eq_2]at h;generalize hrec21:Dp k t7 t8 kq22=rec21 at h;refine .a 5 ?_;rcases oi h with⟨c23,h⟩|⟨c23,h⟩
  ·refine .a 1 ?_;refine .sK [1,2,4,5,24,25] ?_;refine .seq_mid (fun ρ H=>∃ (n24:Nat) (n26:Nat) (x25:(List (List Int))) (x27:(List Int)),ρ=[(1,(.ptr n2 0)),(2,(.ptr n3 0)),(4,(.fz 1 (t8.map AB))),(5,(.ptr n9 0)),(24,(AB (t7.f1.length:Int))),(25,(AB x20))]∧H=[(n2,(.mem (Ak t7))),(BA n3 ((Vector.replicate 256 (0:Int)).toList.map AK)),(Z6 n9 (t7.f0.toList.map AK) n24 x25.length n26 x27.length),(Z5 n24 x25),(n26,(Z3 x27))]∧Hr k rec21 x20 x25 x27=some r) ?_ ?_
   ·refine .a 8 ?_;refine .regQ (by rfl) (by decide+kernel) ?_;refine .a 2 ?_;obtain⟨g28,h⟩:=AC h;refine .a 7 ?_;rcases oi h with⟨c29,h⟩|⟨c29,h⟩
    ·refine .a 1 ?_;refine .eK [1,2,4,5,24,25] ?_;exact⟨n16,n18,x17,x19,rfl,rfl,h⟩
    refine .a 5 ?_;refine .nK [1,2,4,5,6,7,24,25] ?_;refine .seq_mid (fun ρ H=>∃ (n30:Nat) (x31:(List Int)),ρ=[(1,(.ptr n2 0)),(2,(.ptr n3 0)),(4,(.fz 1 (t8.map AB))),(5,(.ptr n9 0)),(6,(AB x20)),(7,(.own n30 0 x31.length)),(24,(AB (t7.f1.length:Int))),(25,(AB x20))]∧H=[(n2,(.mem (Ak t7))),(BA n3 ((Vector.replicate 256 (0:Int)).toList.map AK)),(Z6 n9 (t7.f0.toList.map AK) n16 x17.length n18 x19.length),(Z5 n16 x17),(n18,(Z3 x19)),(n30,(Z3 x31))]∧IE k rec21 t7 x17 x19 x20 x31=some r) ?_ ?_
    ·refine .a 5 ?_;obtain⟨g39,h⟩:=AC h;refine .a 6 ?_;refine .nilOwn 7 1 rfl fun n53=>?_;refine .wH [1,2,4,5,6,7,24,25,40,41,42] (H':=[(n2,(.mem (Ak t7))),(BA n3 ((Vector.replicate 256 (0:Int)).toList.map AK)),(Z6 n9 (t7.f0.toList.map AK) n16 x17.length n18 x19.length),(Z5 n16 x17),(n18,(Z3 x19)),(n53,(Z3 ([]:List Int)))]) (.cons 1 rfl (.cons 1 rfl (.cons 1 rfl (.cons 1 rfl (.cons 1 rfl (.cons 0 rfl (.nil _))))))) ?_;refine .loop (fun kq ρ H=>∃ (n40:Nat) (x41:(List Int)) (x42:Int),ρ=[(1,(.ptr n2 0)),(2,(.ptr n3 0)),(4,(.fz 1 (t8.map AB))),(5,(.ptr n9 0)),(6,(AB x20)),(7,(.own n40 0 x41.length)),(24,(AB (t7.f1.length:Int))),(25,(AB x20)),(40,(Df (AA t7.f1 x20))),(41,(AB ((AA t7.f1 x20).length:Int))),(42,(AB x42))]∧H=[(n2,(.mem (Ak t7))),(BA n3 ((Vector.replicate 256 (0:Int)).toList.map AK)),(Z6 n9 (t7.f0.toList.map AK) n16 x17.length n18 x19.length),(Z5 n16 x17),(n18,(Z3 x19)),(n40,(Z3 x41))]∧Dl k rec21 t7 t8 x17 x19 x20 kq x41 x42=some r) k ⟨n53,([]:List Int),(0:Int),rfl,rfl,h⟩ ?_;rintro kq44 _ _ ⟨n40,x41,x42,rfl,rfl,h⟩
     cases kq44 with
     | zero=>rw[Dl.eq_1]at h;cases h
     | succ kq44=>
     rw[Dl.eq_2]at h;generalize hrec43:Dl k rec21 t7 t8 x17 x19 x20 kq44=rec43 at h;refine .a 5 ?_;rcases oi h with⟨c45,h⟩|⟨c45,h⟩
     ·refine .a 6 ?_;obtain⟨g46,h⟩:=AC h;refine .a 3 ?_;refine .nK [1,2,4,5,6,7,9,24,25,40,41,42] ?_;refine .seq_mid (fun ρ H=>∃ (x47:Int),ρ=[(1,(.ptr n2 0)),(2,(.ptr n3 0)),(4,(.fz 1 (t8.map AB))),(5,(.ptr n9 0)),(6,(AB x20)),(7,(.own n40 0 x41.length)),(9,(AB x47)),(24,(AB (t7.f1.length:Int))),(25,(AB x20)),(40,(Df (AA t7.f1 x20))),(41,(AB ((AA t7.f1 x20).length:Int))),(42,(AB x42))]∧H=[(n2,(.mem (Ak t7))),(BA n3 ((Vector.replicate 256 (0:Int)).toList.map AK)),(Z6 n9 (t7.f0.toList.map AK) n16 x17.length n18 x19.length),(Z5 n16 x17),(n18,(Z3 x19)),(n40,(Z3 x41))]∧IA k rec43 x41 x42 x47=some r) ?_ ?_
      ·refine .a 5 ?_;rcases oi h with⟨c51,h⟩|⟨c51,h⟩
       ·refine .a 4 ?_;obtain⟨g52,h⟩:=AC h;refine .a 3 ?_;refine .nK [1,2,4,5,6,7,9,24,25,40,41,42] ?_;exact⟨(AA t8 (AA (AA t7.f1 x20) x42)),rfl,rfl,h⟩
       refine .a 1 ?_;refine .sK [1,2,4,5,6,7,9,24,25,40,41,42] ?_;exact⟨(AA (AA t7.f1 x20) x42),rfl,rfl,h⟩
      rintro _ _ ⟨x47,rfl,rfl,h⟩;rw[IA.eq_1]at h;refine .a 3 ?_;refine .lit (Z:=(AB (0:Int))) (xs:=(([x47]:List Int).map AB)) (qs:=[(0,(AB x47))]) rfl 54 rfl (by decide) rfl ⟨rfl,rfl,rfl,trivial⟩ Tryz.underlying40 Bb Fj DT rfl (by decide) (An (z:=1) [(AB x47)] rfl ⟨⟨rfl,rfl⟩,trivial⟩) rfl fun n48=>?_;obtain⟨g50,h⟩:=AC h;refine .appendL (l:=x41) (m:=([x47]:List Int)) 6 55 rfl (by decide) rfl rfl rfl rfl rfl (CS.ownL (f:=AB) (l:=([x47]:List Int)) 0 rfl) Tryz.underlying40 Tryz.underlying40 Bb KP Fj rfl g50 (by decide) fun n49=>?_;refine .a 1 ?_;refine .nS [1,2,4,5,6,7,24,25,40,41,42] [1,2,3,4,5,6] ?_;refine .a 3 ?_;refine .nK [1,2,4,5,6,7,24,25,40,41,42] ?_;exact⟨kq44,Nat.lt_succ_self _,n49,(x41++([x47]:List Int)),(AG (x42+(1:Int))),rfl,rfl,by rw[hrec43];exact h⟩
     refine .a 1 ?_;refine .eK [1,2,4,5,6,7,24,25] ?_;exact⟨n40,x41,rfl,rfl,h⟩
    rintro _ _ ⟨n30,x31,rfl,rfl,h⟩;rw[IE.eq_1]at h;refine .a 5 ?_;refine .freezeS 5 [(7,(.fz 1 (x31.map AB))),(59,(.fz 1 (x31.map AB)))] rfl ⟨Aj rfl,Aj rfl,trivial⟩ ?_;refine .lit (Z:=(.fl (.slice none 0 0))) (xs:=(([x31]:List (List Int)).map Ce)) (qs:=[(0,(.fz 1 (x31.map AB)))]) rfl 60 rfl (by decide) rfl ⟨rfl,rfl,rfl,trivial⟩ Tryz.underlying39 HI KT Ng rfl (by decide) (An (z:=1) [(.fz 1 (x31.map AB))] rfl ⟨⟨rfl,rfl⟩,trivial⟩) rfl fun n32=>?_;obtain⟨g34,h⟩:=AC h;refine .appendL (l:=x17) (m:=([x31]:List (List Int))) 4 61 rfl (by decide) rfl rfl rfl rfl rfl (CS.ownL (f:=Ce) (l:=([x31]:List (List Int))) 0 rfl) Tryz.underlying39 Tryz.underlying39 HI Ud KT rfl g34 (by decide) fun n33=>?_;refine .a 1 ?_;refine .store 3 rfl rfl rfl rfl rfl rfl (.cast (.fldS (.fld0 .here)) rfl) rfl rfl KM rfl ?_;refine .nS [1,2,4,5,6,24,25] [1,2,3,4,5] ?_;obtain⟨g35,h⟩:=AC h;obtain⟨g38,h⟩:=AC h
    refine .regEff (by rfl) (by decide+kernel) (fun (σ:Nat→Nat)=>([(.ptr n9 257),(.own n18 0 x19.length),(.ptr n2 257),(Df t7.f2),(AB x20),(.rp (AB (AA t7.f2 x20))),(AB (AA t7.f2 x20)),(Df ([(AA t7.f2 x20)]:List Int)),(BL (σ 8) (x19++([(AA t7.f2 x20)]:List Int)).length),(.ptr n9 257),(.fl undef)]:List AV)) (fun (L:Nat→Bool) (σ:Nat→Nat)=>((n2,(.mem (Ak t7)))::(BA n3 ((Vector.replicate 256 (0:Int)).toList.map AK))::(Z5 n33 (x17++([x31]:List (List Int))))::(bif L 8 then(bif L 10 then((Z6 n9 (t7.f0.toList.map AK) n33 (x17++([x31]:List (List Int))).length (σ 8) (x19++([(AA t7.f2 x20)]:List Int)).length)::((σ 8),(Z3 (x19++([(AA t7.f2 x20)]:List Int))))::[])else((Z6 n9 (t7.f0.toList.map AK) n33 (x17++([x31]:List (List Int))).length n18 x19.length)::((σ 8),(Z3 (x19++([(AA t7.f2 x20)]:List Int))))::[]))else((Z6 n9 (t7.f0.toList.map AK) n33 (x17++([x31]:List (List Int))).length n18 x19.length)::(n18,(Z3 x19))::[])):Aa)) [(1,(.ptr n2 0)),(2,(.ptr n3 0)),(4,(.fz 1 (t8.map AB))),(5,(.ptr n9 0)),(6,(AB x20)),(24,(AB (t7.f1.length:Int))),(25,(AB x20))] ⟨rfl,rfl,rfl,rfl,rfl,rfl,rfl,trivial⟩ (fun _=>rfl) (fun σ=>(.cons 0 rfl (.cons 0 rfl (.cons 1 rfl (.cons 0 rfl (.cons 0 rfl (.refl _))))))) ⟨?_,?_,?_,?_,?_,?_,?_,?_,?_,?_,?_,trivial⟩ (fun σ=>[(1,(.ptr n2 0)),(2,(.ptr n3 0)),(4,(.fz 1 (t8.map AB))),(5,(.ptr n9 0)),(24,(AB (t7.f1.length:Int))),(25,(AB x20))]) (fun σ=>((n2,(.mem (Ak t7)))::(BA n3 ((Vector.replicate 256 (0:Int)).toList.map AK))::(Z5 n33 (x17++([x31]:List (List Int))))::(Z6 n9 (t7.f0.toList.map AK) n33 (x17++([x31]:List (List Int))).length (σ 8) (x19++([(AA t7.f2 x20)]:List Int)).length)::((σ 8),(Z3 (x19++([(AA t7.f2 x20)]:List Int))))::[])) (fun σ=>⟨rfl,rfl,rfl,rfl,rfl,rfl,trivial⟩) (fun σ=>.refl _) (fun σ=>?_)
    ·refine .calm (fun _ _=>rfl) fun L σ hc hi hd=>?_;have m1:L 1=false:=hc.neg (i:=0) (j:=1) rfl (by rfl) hi;have m8:L 8=false:=hc.neg (i:=1) (j:=8) rfl (by rfl) m1;have m10:L 10=false:=hc.neg (i:=0) (j:=10) rfl (by rfl) hi;refine .heq (H':=((n2,(.mem (Ak t7)))::(BA n3 ((Vector.replicate 256 (0:Int)).toList.map AK))::(Z5 n33 (x17++([x31]:List (List Int))))::(Z6 n9 (t7.f0.toList.map AK) n33 (x17++([x31]:List (List Int))).length n18 x19.length)::(n18,(Z3 x19))::[])) (by first|rfl|simp only[m8,m10,cond_true,cond_false]) ?_;refine .a 1 ?_;exact .nE (d:=63) rfl ⟨⟨63,_,rfl,rfl,rfl⟩,.of_eq (by first|rfl|simp only[m8,m10,cond_true,cond_false]) (.refl _)⟩
    ·refine .calm (fun _ _=>rfl) fun L σ hc hi hd=>?_;have m8:L 8=false:=hc.neg (i:=1) (j:=8) rfl (by rfl) hi;have m10:L 10=false:=hc.neg (i:=1) (j:=10) rfl (by rfl) hi;refine .heq (H':=((n2,(.mem (Ak t7)))::(BA n3 ((Vector.replicate 256 (0:Int)).toList.map AK))::(Z5 n33 (x17++([x31]:List (List Int))))::(Z6 n9 (t7.f0.toList.map AK) n33 (x17++([x31]:List (List Int))).length n18 x19.length)::(n18,(Z3 x19))::[])) (by first|rfl|simp only[m8,m10,cond_true,cond_false]) ?_;refine .a 1 ?_;exact .nE (d:=64) rfl ⟨⟨64,_,rfl,rfl,rfl⟩,.of_eq (by first|rfl|simp only[m8,m10,cond_true,cond_false]) (.refl _)⟩
    ·refine .calm (fun _ _=>rfl) fun L σ hc hi hd=>?_;refine .a 1 ?_;exact .nE (d:=65) rfl ⟨⟨65,_,rfl,rfl,rfl⟩,.refl _⟩
    ·refine .calm (fun _ _=>rfl) fun L σ hc hi hd=>?_;refine .a 1 ?_;exact .nE (d:=66) rfl ⟨⟨66,_,rfl,rfl,rfl⟩,.refl _⟩
    ·refine .calm (fun _ _=>rfl) fun L σ hc hi hd=>?_;refine .a 1 ?_;exact .nE (d:=67) rfl ⟨⟨67,_,rfl,rfl,rfl⟩,.refl _⟩
    ·refine .calm (fun _ _=>rfl) fun L σ hc hi hd=>?_;refine .a 1 ?_;exact .nE (d:=68) rfl ⟨⟨68,_,rfl,rfl,rfl⟩,.refl _⟩
    ·refine .calm (fun _ _=>rfl) fun L σ hc hi hd=>?_;refine .a 1 ?_;exact .nE (d:=69) rfl ⟨⟨69,_,rfl,rfl,rfl⟩,.refl _⟩
    ·refine .calm (fun _ _=>rfl) fun L σ hc hi hd=>?_;refine .wK [69] ?_;refine .lit (Z:=(AB (0:Int))) (xs:=(([(AA t7.f2 x20)]:List Int).map AB)) (qs:=[(0,(AB (AA t7.f2 x20)))]) rfl 70 rfl (by decide) rfl ⟨rfl,rfl,rfl,trivial⟩ Tryz.underlying40 Bb Fj DT rfl (by decide) (An (z:=1) [(AB (AA t7.f2 x20))] rfl ⟨⟨rfl,rfl⟩,trivial⟩) rfl fun n36=>?_;refine .freezeS 0 [(70,(Df ([(AA t7.f2 x20)]:List Int)))] rfl ⟨Aj rfl,trivial⟩ ?_;exact .nE (d:=70) rfl ⟨⟨70,_,rfl,rfl,rfl⟩,.refl _⟩
    ·intro L σ hc hi hd;have m10:L 10=false:=hc.neg (i:=8) (j:=10) rfl (by rfl) hi;refine .heq (H':=((n2,(.mem (Ak t7)))::(BA n3 ((Vector.replicate 256 (0:Int)).toList.map AK))::(Z5 n33 (x17++([x31]:List (List Int))))::(Z6 n9 (t7.f0.toList.map AK) n33 (x17++([x31]:List (List Int))).length n18 x19.length)::(n18,(Z3 x19))::[])) (by first|rfl|simp only[hi,m10,cond_true,cond_false]) ?_;refine .wK [64,70] ?_;refine .appendL (l:=x19) (m:=([(AA t7.f2 x20)]:List Int)) 4 71 rfl (by decide) rfl rfl rfl rfl rfl CS.fz Tryz.underlying40 Tryz.underlying40 Bb KP Fj rfl g38 (by decide) fun n37=>?_;have a8:A5 L 8 8=true:=rfl;have a10:A5 L 8 10=false:=m10;have u8:Cf σ 8 n37 8=n37:=rfl;exact .nE (d:=71) rfl ⟨(Cf σ 8 n37),(fun j hj=>match j,hj with |0,_=>rfl|1,_=>rfl|2,_=>rfl|3,_=>rfl|4,_=>rfl|5,_=>rfl|6,_=>rfl|7,_=>rfl|8,hj=>Bool.noConfusion (hj.symm.trans hi)|9,_=>rfl|10,_=>rfl|_+11,_=>rfl),(fun d' hd'=>⟨_,rfl,by cases hd';rfl⟩),.of_eq (B:=((n2,(.mem (Ak t7)))::(BA n3 ((Vector.replicate 256 (0:Int)).toList.map AK))::(Z5 n33 (x17++([x31]:List (List Int))))::(Z6 n9 (t7.f0.toList.map AK) n33 (x17++([x31]:List (List Int))).length n18 x19.length)::(n37,(Z3 (x19++([(AA t7.f2 x20)]:List Int))))::[])) (by simp only[a8,a10,u8,cond_true,cond_false]) (.refl _)⟩
    ·refine .calm (fun _ _=>rfl) fun L σ hc hi hd=>?_;have y8:L 8=true:=BC hd (i:=8) (by rfl);have m10:L 10=false:=hc.neg (i:=9) (j:=10) rfl (by rfl) hi;refine .heq (H':=((n2,(.mem (Ak t7)))::(BA n3 ((Vector.replicate 256 (0:Int)).toList.map AK))::(Z5 n33 (x17++([x31]:List (List Int))))::(Z6 n9 (t7.f0.toList.map AK) n33 (x17++([x31]:List (List Int))).length n18 x19.length)::((σ 8),(Z3 (x19++([(AA t7.f2 x20)]:List Int))))::[])) (by first|rfl|simp only[y8,m10,cond_true,cond_false]) ?_;refine .a 1 ?_;exact .nE (d:=72) rfl ⟨⟨72,_,rfl,rfl,rfl⟩,.of_eq (by first|rfl|simp only[y8,m10,cond_true,cond_false]) (.refl _)⟩
    ·intro L σ hc hi hd;have y8:L 8=true:=BC hd (i:=8) (by rfl);refine .heq (H':=((n2,(.mem (Ak t7)))::(BA n3 ((Vector.replicate 256 (0:Int)).toList.map AK))::(Z5 n33 (x17++([x31]:List (List Int))))::(Z6 n9 (t7.f0.toList.map AK) n33 (x17++([x31]:List (List Int))).length n18 x19.length)::((σ 8),(Z3 (x19++([(AA t7.f2 x20)]:List Int))))::[])) (by first|rfl|simp only[hi,y8,cond_true,cond_false]) ?_;refine .wK [71,72] ?_;refine .store 3 rfl rfl rfl rfl rfl rfl (.cast (.fldS (.fldS (.fld0 .here))) rfl) rfl rfl HI rfl ?_;have a8:A5 L 10 8=true:=y8;have a10:A5 L 10 10=true:=rfl;exact .n0 ⟨σ,(fun _ _=>rfl),(fun d' hd'=>by cases hd'),.of_eq (B:=((n2,(.mem (Ak t7)))::(BA n3 ((Vector.replicate 256 (0:Int)).toList.map AK))::(Z5 n33 (x17++([x31]:List (List Int))))::(Z6 n9 (t7.f0.toList.map AK) n33 (x17++([x31]:List (List Int))).length (σ 8) (x19++([(AA t7.f2 x20)]:List Int)).length)::((σ 8),(Z3 (x19++([(AA t7.f2 x20)]:List Int))))::[])) (by simp only[a8,a10,cond_true,cond_false]) (.refl _)⟩
    generalize σ 8=n37;refine .nS [1,2,4,5,24,25] [0,1,3,2,4] ?_;exact⟨n33,n37,(x17++([x31]:List (List Int))),(x19++([(AA t7.f2 x20)]:List Int)),rfl,rfl,h⟩
   rintro _ _ ⟨n24,n26,x25,x27,rfl,rfl,h⟩;rw[Hr.eq_1]at h;refine .a 3 ?_;refine .nK [1,2,4,5,24,25] ?_;exact⟨kq22,Nat.lt_succ_self _,n24,n26,x25,x27,(AG (x20+(1:Int))),rfl,rfl,by rw[hrec21];exact h⟩
  refine .a 1 ?_;refine .eH [2,5] (H':=[(BA n3 ((Vector.replicate 256 (0:Int)).toList.map AK)),(Z6 n9 (t7.f0.toList.map AK) n16 x17.length n18 x19.length),(Z5 n16 x17),(n18,(Z3 x19))]) (.cons 1 rfl (.cons 1 rfl (.cons 1 rfl (.cons 1 rfl (.nil _))))) ?_;exact⟨n16,n18,x17,x19,rfl,rfl,h⟩
 rintro _ _ ⟨n10,n12,x11,x13,rfl,rfl,h⟩;rw[Mv.eq_1]at h;refine .sr ?_;refine .freezeFld (X':=(.st [(256,(.ar 1 (t7.f0.toList.map AK))),(1,(.fz 1 (x11.map Ce))),(1,(.own n12 0 x13.length))])) (els':=(x11.map Ce)) 2 1 rfl rfl (.cast (.fldS (.fld0 .here)) rfl) (by simp) (by rw[Be]) rfl rfl (by decide) ?_;refine .freezeFld (X':=(PP (t7.f0.toList.map AK) x11 x13)) (els':=(x13.map AB)) 2 1 rfl rfl (.cast (.fldS (.fldS (.fld0 .here))) rfl) (by simp) (by rw[Be]) rfl rfl (by decide) ?_;refine .a 1 ?_;obtain⟨t14,et14,h⟩:=ob h;refine .callS [(Ak (AI.mk t7.f0 x11 x13))] (Ak t14) 75 rfl (by decide) cU rfl rfl rfl ⟨rfl,rfl,trivial⟩ (SQ et14) ?_;obtain⟨t15,et15,h⟩:=ob h;refine .callS [(Ak t14)] (Ak t15) 76 rfl (by decide) ZG rfl rfl rfl ⟨rfl,rfl,trivial⟩ (NH et15) ?_;refine .store 0 rfl rfl rfl rfl rfl rfl (.cast .here rfl) rfl rfl BQ rfl ?_;refine .a 1 ?_;refine .nS [2,3] [0] ?_;refine .rK [2,3] ?_;have hr:=Option.some.inj h;subst hr;exact⟨[(Ak t15),(AB (0:Int))],⟨⟨_,0,rfl,rfl,E9,BQ⟩,rfl,rfl,trivial⟩,rfl⟩
end Go.Avl.T8
namespace Go.Avl.T8
open Go Go.RowKit Go.Proofs Go.Avl
set_option linter.unusedVariables false
set_option maxRecDepth 100000
set_option maxHeartbeats 4000000
attribute [local irreducible] AW AO AQ AY Aq AH
def J3 (k:Nat) (t7:(Ar×(List Int))) (x12:(List Int)):Option (AI×Int):=
 (Xz k t7.1 x12).bind fun t13=>
 if t13.2≠(0:Int)then some ((AI.mk (Vector.replicate 256 (0:Int)) ([]:List (List Int)) ([]:List Int)),t13.2)
 else(Xh k t13.1).bind fun t16=>
 some (t16.1,t16.2)
def Ec (k:Nat) (t7:(Ar×(List Int))):Nat→(List Int)→Int→Option (AI×Int)
 | 0,_,_=>none
 | j+1,x17,x18=>
   if x18<(t7.2.length:Int)then if 0≤x18∧x18<(t7.2.length:Int)then if 0≤(AA t7.2 x18)∧(AA t7.2 x18)<(x17.length:Int)then(Ec k t7 j) (AU x17 (AA t7.2 x18) x18) (AG (x18+(1:Int)))
   else none
   else none
   else J3 k t7 x17
def Jr (k:Nat) (t7:(Ar×(List Int))) (x11:(List Int)):Option (AI×Int):=
 Ec k t7 k x11 (0:Int)
def Er (k:Nat) (t7:(Ar×(List Int))):Nat→(List Int)→Int→Option (AI×Int)
 | 0,_,_=>none
 | j+1,x24,x25=>
   if x25<((List.replicate t7.1.f0.toNat (0:Int)).length:Int)then if 0≤x25∧x25<(x24.length:Int)then(Er k t7 j) (AU x24 x25 (-1:Int)) (AG (x25+(1:Int)))
   else none
   else Jr k t7 x24
def JY (k:Nat) (x6:(List Ar)):Option (AI×Int):=
 (am k x6).bind fun t7=>
 if 0≤t7.1.f0∧t7.1.f0*(8:Int)≤140737488355328∧t7.1.f0≤9223372036854775807 then Er k t7 k (List.replicate t7.1.f0.toNat (0:Int)) (0:Int)
 else none
def Ek (k:Nat) (p0:(List CN)):Nat→(List Ar)→Int→Option (AI×Int)
 | 0,_,_=>none
 | j+1,x31,x32=>
   if x32<(p0.length:Int)then if 0≤x32∧x32<(p0.length:Int)then(WC k ((AA p0 x32).f2)).bind fun t38=>
   (Yv k t38.1).bind fun t39=>
   if t39.2≠(0:Int)then some ((AI.mk (Vector.replicate 256 (0:Int)) ([]:List (List Int)) ([]:List Int)),t39.2)
   else if(x31++([t39.1]:List Ar)).length*48≤140737488355328 then(Ek k p0 j) (x31++([t39.1]:List Ar)) (AG (x32+(1:Int)))
   else none
   else none
   else JY k x31
def ZZ (k:Nat) (p0:(List CN)):Option (AI×Int):=
 (ZD k p0).bind fun t3=>
 if t3.2≠(0:Int)then some ((AI.mk (Vector.replicate 256 (0:Int)) ([]:List (List Int)) ([]:List Int)),t3.2)
 else Ek k p0 k ([]:List Ar) (0:Int)
theorem OC {k:Nat} {p0:(List CN)} {r:(AI×Int)} (h:ZZ k p0=some r):AY Tryz.prog 12 [(.fz 3 (p0.map Es))] (.tup [(Ak r.1),(AB r.2)]):=by
 rw[ZZ.eq_1]at h;refine AY.intro (res:=[.cell 2 42,.tmp 3]) Tryz.func12 rfl rfl rfl (Nat.le_of_ble_eq_true rfl) ?_;refine .sr ?_;refine .alloc rfl 2 rfl (by decide) rfl CY BV fun n2=>?_;refine .a 6 ?_;obtain⟨t3,et3,h⟩:=ob h;refine .callS [(.fz 3 (p0.map Es))] (.tup [(AB t3.1),(AB t3.2)]) 23 rfl (by decide) bh rfl rfl rfl ⟨rfl,rfl,trivial⟩ (TB et3) ?_;refine .a 11 ?_;rcases oi h with⟨c4,h⟩|⟨c4,h⟩
 ·refine .a 3 ?_;refine .c (x:=(Z0 ((Vector.replicate 256 (0:Int)).toList.map AK))) (.build (qs:=[]) rfl trivial Tryz.underlying42 rfl CY BV .nil rfl) ?_;refine .a 1 ?_;refine .store 0 rfl rfl rfl rfl rfl rfl (.cast .here rfl) rfl rfl BQ rfl ?_;refine .a 1 ?_;refine .nK [2,3] ?_;refine .coeFld (X':=(Uz ((Vector.replicate 256 (0:Int)).toList.map AK) ([]:List (List Int)))) 0 rfl (.cast (.fldS (.fld0 .here)) rfl) rfl (Bc 1) rfl rfl ?_;refine .coeFld (X':=(PP ((Vector.replicate 256 (0:Int)).toList.map AK) ([]:List (List Int)) ([]:List Int))) 0 rfl (.cast (.fldS (.fldS (.fld0 .here))) rfl) rfl (Bc 1) rfl rfl ?_;refine .rK [2,3] ?_;cases h;exact⟨[(Ak (AI.mk (Vector.replicate 256 (0:Int)) ([]:List (List Int)) ([]:List Int))),(AB t3.2)],⟨⟨_,0,rfl,rfl,E9,BQ⟩,rfl,rfl,trivial⟩,rfl⟩
 refine .a 5 ?_;refine .nK [0,2,6] ?_;refine .seq_mid (fun ρ H=>∃ (n5:Nat) (x6:(List Ar)),ρ=[(2,(.ptr n2 0)),(6,(.own n5 0 x6.length))]∧H=[(BA n2 ((Vector.replicate 256 (0:Int)).toList.map AK)),(n5,(.mem (.ar 4 (x6.map BK))))]∧JY k x6=some r) ?_ ?_
 ·refine .a 7 ?_;refine .nilOwn 6 4 rfl fun n45=>?_;refine .wH [2,6,30,31,32] (H':=[(BA n2 ((Vector.replicate 256 (0:Int)).toList.map AK)),(n45,(.mem (.ar 4 (([]:List Ar).map BK))))]) (.cons 1 rfl (.cons 0 rfl (.nil _))) ?_;refine .loop (fun kq ρ H=>∃ (n30:Nat) (x31:(List Ar)) (x32:Int),ρ=[(2,(.ptr n2 0)),(6,(.own n30 0 x31.length)),(30,(.fz 3 (p0.map Es))),(31,(AB (p0.length:Int))),(32,(AB x32))]∧H=[(BA n2 ((Vector.replicate 256 (0:Int)).toList.map AK)),(n30,(.mem (.ar 4 (x31.map BK))))]∧Ek k p0 kq x31 x32=some r) k ⟨n45,([]:List Ar),(0:Int),rfl,rfl,h⟩ ?_;rintro kq34 _ _ ⟨n30,x31,x32,rfl,rfl,h⟩
  cases kq34 with
  | zero=>rw[Ek.eq_1]at h;cases h
  | succ kq34=>
  rw[Ek.eq_2]at h;generalize hrec33:Ek k p0 kq34=rec33 at h;refine .a 5 ?_;rcases oi h with⟨c35,h⟩|⟨c35,h⟩
  ·refine .a 6 ?_;obtain⟨g36,h⟩:=AC h;refine .a 2 ?_;refine .alloc rfl 8 rfl (by decide) rfl RO LJ fun n37=>?_;refine .store 0 rfl rfl rfl rfl rfl rfl (.cast .here rfl) rfl rfl Om rfl ?_;refine .nS [2,6,8,30,31,32] [1,2,0] ?_;refine .a 4 ?_;obtain⟨t38,et38,h⟩:=ob h;refine .callS [(AN ((AA p0 x32).f2))] (.tup [(Ba t38.1),(AB t38.2)]) 39 rfl (by decide) Yz rfl rfl rfl ⟨rfl,rfl,trivial⟩ (Nf et38) ?_;refine .a 5 ?_;refine .nS [2,6,9,30,31,32] [0,1] ?_;refine .a 3 ?_;obtain⟨t39,et39,h⟩:=ob h;refine .callS [(Ba t38.1)] (.tup [(BK t39.1),(AB t39.2)]) 44 rfl (by decide) Zi rfl rfl rfl ⟨rfl,rfl,trivial⟩ (N2 et39) ?_;refine .a 3 ?_;refine .alloc rfl 11 rfl (by decide) rfl Jd Gl fun n40=>?_;refine .store 0 rfl rfl rfl rfl rfl rfl (.cast .here rfl) rfl rfl G4 rfl ?_;refine .a 1 ?_;refine .nS [2,6,11,12,30,31,32] [1,2,0] ?_;refine .a 6 ?_;rcases oi h with⟨c41,h⟩|⟨c41,h⟩
   ·refine .a 3 ?_;refine .c (x:=(Z0 ((Vector.replicate 256 (0:Int)).toList.map AK))) (.build (qs:=[]) rfl trivial Tryz.underlying42 rfl CY BV .nil rfl) ?_;refine .a 1 ?_;refine .store 0 rfl rfl rfl rfl rfl rfl (.cast .here rfl) rfl rfl BQ rfl ?_;refine .a 1 ?_;refine .nS [2,3] [0] ?_;refine .coeFld (X':=(Uz ((Vector.replicate 256 (0:Int)).toList.map AK) ([]:List (List Int)))) 0 rfl (.cast (.fldS (.fld0 .here)) rfl) rfl (Bc 1) rfl rfl ?_;refine .coeFld (X':=(PP ((Vector.replicate 256 (0:Int)).toList.map AK) ([]:List (List Int)) ([]:List Int))) 0 rfl (.cast (.fldS (.fldS (.fld0 .here))) rfl) rfl (Bc 1) rfl rfl ?_;refine .rK [2,3] ?_;cases h;exact⟨[(Ak (AI.mk (Vector.replicate 256 (0:Int)) ([]:List (List Int)) ([]:List Int))),(AB t39.2)],⟨⟨_,0,rfl,rfl,E9,BQ⟩,rfl,rfl,trivial⟩,rfl⟩
   refine .a 5 ?_;refine .lit (Z:=(Z7 (0:Int))) (xs:=(([t39.1]:List Ar).map BK)) (qs:=[(0,(BK t39.1))]) rfl 53 rfl (by decide) rfl ⟨rfl,rfl,rfl,trivial⟩ Tryz.underlying73 G4 Jd Gl rfl (by decide) (An (z:=4) [(BK t39.1)] rfl ⟨⟨rfl,rfl⟩,trivial⟩) rfl fun n42=>?_;obtain⟨g44,h⟩:=AC h;refine .appendL (l:=x31) (m:=([t39.1]:List Ar)) 2 54 rfl (by decide) rfl rfl rfl rfl rfl (CS.ownL (f:=BK) (l:=([t39.1]:List Ar)) 0 rfl) Tryz.underlying73 Tryz.underlying73 G4 ce Jd rfl g44 (by decide) fun n43=>?_;refine .a 1 ?_;refine .nS [2,6,30,31,32] [1,2] ?_;refine .a 3 ?_;refine .nK [2,6,30,31,32] ?_;exact⟨kq34,Nat.lt_succ_self _,n43,(x31++([t39.1]:List Ar)),(AG (x32+(1:Int))),rfl,rfl,by rw[hrec33];exact h⟩
  refine .a 1 ?_;refine .eK [2,6] ?_;exact⟨n30,x31,rfl,rfl,h⟩
 rintro _ _ ⟨n5,x6,rfl,rfl,h⟩;rw[JY.eq_1]at h;refine .a 3 ?_;obtain⟨t7,et7,h⟩:=ob h;refine .freezeS 1 [(6,(.fz 4 (x6.map BK))),(57,(.fz 4 (x6.map BK)))] rfl ⟨Aj rfl,Aj rfl,trivial⟩ ?_;refine .callS [(.fz 4 (x6.map BK))] (.tup [(BK t7.1),(.fz 1 (t7.2.map AB))]) 58 rfl (by decide) bj rfl rfl rfl ⟨rfl,rfl,trivial⟩ (ST et7) ?_;refine .a 3 ?_;refine .alloc rfl 13 rfl (by decide) rfl Jd Gl fun n8=>?_;refine .store 0 rfl rfl rfl rfl rfl rfl (.cast .here rfl) rfl rfl G4 rfl ?_;refine .a 1 ?_;refine .nS [2,13,14] [1,0] ?_;refine .a 4 ?_;obtain⟨g10,h⟩:=AC h;refine .makeL (f:=AB) (0:Int) rfl 63 rfl (by decide) rfl rfl rfl Tryz.underlying40 Bb KP Fj DT rfl g10 fun n9=>?_;refine .a 1 ?_;refine .nS [2,13,14,15] [1,2,0] ?_;refine .seq_mid (fun ρ H=>∃ (x11:(List Int)),ρ=[(2,(.ptr n2 0)),(13,(.ptr n8 0)),(14,(.fz 1 (t7.2.map AB))),(15,(.own n9 0 x11.length))]∧H=[(BA n2 ((Vector.replicate 256 (0:Int)).toList.map AK)),(n8,(.mem (BK t7.1))),(n9,(Z3 x11))]∧Jr k t7 x11=some r) ?_ ?_
 ·refine .a 7 ?_;refine .wK [2,13,14,15,65,66] ?_;refine .loop (fun kq ρ H=>∃ (x24:(List Int)) (x25:Int),ρ=[(2,(.ptr n2 0)),(13,(.ptr n8 0)),(14,(.fz 1 (t7.2.map AB))),(15,(.own n9 0 x24.length)),(65,(AB ((List.replicate t7.1.f0.toNat (0:Int)).length:Int))),(66,(AB x25))]∧H=[(BA n2 ((Vector.replicate 256 (0:Int)).toList.map AK)),(n8,(.mem (BK t7.1))),(n9,(Z3 x24))]∧Er k t7 kq x24 x25=some r) k ⟨(List.replicate t7.1.f0.toNat (0:Int)),(0:Int),rfl,rfl,h⟩ ?_;rintro kq27 _ _ ⟨x24,x25,rfl,rfl,h⟩
  cases kq27 with
  | zero=>rw[Er.eq_1]at h;cases h
  | succ kq27=>
  rw[Er.eq_2]at h;generalize hrec26:Er k t7 kq27=rec26 at h;refine .a 5 ?_;rcases oi h with⟨c28,h⟩|⟨c28,h⟩
  ·refine .a 12 ?_;obtain⟨g29,h⟩:=AC h;refine .a 1 ?_;refine .store 2 rfl rfl rfl rfl rfl rfl (.cast (.lidx x25 (-1:Int) g29.1 g29.2 .here) (by omega)) rfl rfl Bb rfl ?_;refine .coe 15 (y':=(BL n9 (AU x24 x25 (-1:Int)).length)) rfl (fun _ _ h=>Ad h) ?_;refine .coe 69 (y':=(BL n9 (AU x24 x25 (-1:Int)).length)) rfl (fun _ _ h=>Ad h) ?_;refine .a 4 ?_;refine .nK [2,13,14,15,65,66] ?_;exact⟨kq27,Nat.lt_succ_self _,(AU x24 x25 (-1:Int)),(AG (x25+(1:Int))),rfl,rfl,by rw[hrec26];exact h⟩
  refine .a 1 ?_;refine .eK [2,13,14,15] ?_;exact⟨x24,rfl,rfl,h⟩
 rintro _ _ ⟨x11,rfl,rfl,h⟩;rw[Jr.eq_1]at h;refine .seq_mid (fun ρ H=>∃ (x12:(List Int)),ρ=[(2,(.ptr n2 0)),(13,(.ptr n8 0)),(15,(.own n9 0 x12.length))]∧H=[(BA n2 ((Vector.replicate 256 (0:Int)).toList.map AK)),(n8,(.mem (BK t7.1))),(n9,(Z3 x12))]∧J3 k t7 x12=some r) ?_ ?_
 ·refine .a 7 ?_;refine .wK [2,13,15,73,74,75] ?_;refine .loop (fun kq ρ H=>∃ (x17:(List Int)) (x18:Int),ρ=[(2,(.ptr n2 0)),(13,(.ptr n8 0)),(15,(.own n9 0 x17.length)),(73,(.fz 1 (t7.2.map AB))),(74,(AB (t7.2.length:Int))),(75,(AB x18))]∧H=[(BA n2 ((Vector.replicate 256 (0:Int)).toList.map AK)),(n8,(.mem (BK t7.1))),(n9,(Z3 x17))]∧Ec k t7 kq x17 x18=some r) k ⟨x11,(0:Int),rfl,rfl,h⟩ ?_;rintro kq20 _ _ ⟨x17,x18,rfl,rfl,h⟩
  cases kq20 with
  | zero=>rw[Ec.eq_1]at h;cases h
  | succ kq20=>
  rw[Ec.eq_2]at h;generalize hrec19:Ec k t7 kq20=rec19 at h;refine .a 5 ?_;rcases oi h with⟨c21,h⟩|⟨c21,h⟩
  ·refine .a 7 ?_;obtain⟨g22,h⟩:=AC h;refine .a 9 ?_;obtain⟨g23,h⟩:=AC h;refine .a 1 ?_;refine .store 2 rfl rfl rfl rfl rfl rfl (.cast (.lidx (AA t7.2 x18) x18 g23.1 g23.2 .here) (by omega)) rfl rfl Bb rfl ?_;refine .coe 15 (y':=(BL n9 (AU x17 (AA t7.2 x18) x18).length)) rfl (fun _ _ h=>Ad h) ?_;refine .coe 80 (y':=(BL n9 (AU x17 (AA t7.2 x18) x18).length)) rfl (fun _ _ h=>Ad h) ?_;refine .a 4 ?_;refine .nK [2,13,15,73,74,75] ?_;exact⟨kq20,Nat.lt_succ_self _,(AU x17 (AA t7.2 x18) x18),(AG (x18+(1:Int))),rfl,rfl,by rw[hrec19];exact h⟩
  refine .a 1 ?_;refine .eK [2,13,15] ?_;exact⟨x17,rfl,rfl,h⟩
 rintro _ _ ⟨x12,rfl,rfl,h⟩;rw[J3.eq_1]at h;refine .a 4 ?_;obtain⟨t13,et13,h⟩:=ob h;refine .freezeS 2 [(15,(.fz 1 (x12.map AB))),(87,(.fz 1 (x12.map AB)))] rfl ⟨Aj rfl,Aj rfl,trivial⟩ ?_;refine .callS [(BK t7.1),(.fz 1 (x12.map AB))] (.tup [(Ak t13.1),(AB t13.2)]) 88 rfl (by decide) Y5 rfl rfl rfl ⟨rfl,rfl,rfl,rfl,trivial⟩ (ON et13) ?_;refine .a 3 ?_;refine .alloc rfl 19 rfl (by decide) rfl CY BV fun n14=>?_;refine .store 0 rfl rfl rfl rfl rfl rfl (.cast .here rfl) rfl rfl BQ rfl ?_;refine .a 1 ?_;refine .nS [2,19,20] [1,0] ?_;refine .a 6 ?_;rcases oi h with⟨c15,h⟩|⟨c15,h⟩
 ·refine .a 3 ?_;refine .c (x:=(Z0 ((Vector.replicate 256 (0:Int)).toList.map AK))) (.build (qs:=[]) rfl trivial Tryz.underlying42 rfl CY BV .nil rfl) ?_;refine .a 1 ?_;refine .store 0 rfl rfl rfl rfl rfl rfl (.cast .here rfl) rfl rfl BQ rfl ?_;refine .a 1 ?_;refine .nS [2,3] [0] ?_;refine .coeFld (X':=(Uz ((Vector.replicate 256 (0:Int)).toList.map AK) ([]:List (List Int)))) 0 rfl (.cast (.fldS (.fld0 .here)) rfl) rfl (Bc 1) rfl rfl ?_;refine .coeFld (X':=(PP ((Vector.replicate 256 (0:Int)).toList.map AK) ([]:List (List Int)) ([]:List Int))) 0 rfl (.cast (.fldS (.fldS (.fld0 .here))) rfl) rfl (Bc 1) rfl rfl ?_;refine .rK [2,3] ?_;cases h;exact⟨[(Ak (AI.mk (Vector.replicate 256 (0:Int)) ([]:List (List Int)) ([]:List Int))),(AB t13.2)],⟨⟨_,0,rfl,rfl,E9,BQ⟩,rfl,rfl,trivial⟩,rfl⟩
 refine .a 5 ?_;obtain⟨t16,et16,h⟩:=ob h;refine .callS [(Ak t13.1)] (.tup [(Ak t16.1),(AB t16.2)]) 96 rfl (by decide) bI rfl rfl rfl ⟨rfl,rfl,trivial⟩ (Sr et16) ?_;refine .a 2 ?_;refine .store 0 rfl rfl rfl rfl rfl rfl (.cast .here rfl) rfl rfl BQ rfl ?_;refine .a 1 ?_;refine .nS [2,3] [0] ?_;refine .rK [2,3] ?_;cases h;exact⟨[(Ak t16.1),(AB t16.2)],⟨⟨_,0,rfl,rfl,E9,BQ⟩,rfl,rfl,trivial⟩,rfl⟩
def Y3 (k:Nat) (p0:AI) (p1:Int) (p2:Int):Option Int:=
 Option.bind (α:=Bool) (if p1<(0:Int)then some (true)
 else if(p0.f1.length:Int)≤p1 then some (true)
 else if 0≤p2∧p2<(256:Int)then if 0≤p1∧p1<(p0.f1.length:Int)then some (decide (((AA p0.f1 p1).length:Int)≤(AG (AZ p0.f0 p2))))
 else none
 else none) fun b5=>
 if b5=true then some ((-1:Int))
 else if 0≤p1∧p1<(p0.f1.length:Int)then if 0≤p2∧p2<(256:Int)then if 0≤(AZ p0.f0 p2)∧(AZ p0.f0 p2)<((AA p0.f1 p1).length:Int)then some ((AA (AA p0.f1 p1) (AZ p0.f0 p2)))
 else none
 else none
 else none
theorem UF {k:Nat} {p0:AI} {p1:Int} {p2:Int} {r:Int} (h:Y3 k p0 p1 p2=some r):AY Tryz.prog 44 [(Ak p0),(AB p1),(AB p2)] (AB r):=by
 rw[Y3.eq_1]at h;refine AY.intro (res:=[.tmp 6]) Tryz.func44 rfl rfl rfl (Nat.le_of_ble_eq_true rfl) ?_;refine .sr ?_;refine .box rfl 3 rfl (by decide) rfl rfl rfl fun n4=>?_;refine .a 4 ?_;obtain⟨b5,q6,h⟩:=ob h;refine .regQM (by rfl) (by decide+kernel) [(1,(AB p1)),(2,(AB p2)),(3,(.ptr n4 0)),(29,(AD b5))] ?_ ?_
 ·refine .a 3 ?_;rcases oi q6 with⟨c7,q6⟩|⟨c7,q6⟩
  ·refine .a 20 ?_;cases q6;refine .nilE rfl ?_;exact⟨rfl,rfl,rfl,rfl,trivial⟩
  refine .a 7 ?_;rcases oi q6 with⟨c8,q6⟩|⟨c8,q6⟩
  ·refine .a 13 ?_;cases q6;refine .nilE rfl ?_;exact⟨rfl,rfl,rfl,rfl,trivial⟩
  refine .a 2 ?_;obtain⟨g9,q6⟩:=AC q6;refine .cG rfl rfl (bD (decide_eq_false c8)) (.idxP rfl rfl rfl g9 Tryz.underlying38 Ew) ?_;refine .cG rfl rfl (bD (decide_eq_false c8)) (.load 0 rfl rfl rfl (.cast (.fld0 (.vidx p2 g9.1 g9.2 .here)) (by omega)) Ol Ew) ?_;refine .cG (x:=AB (AG (AZ p0.f0 p2))) rfl rfl (bD (decide_eq_false c8)) (.conv rfl rfl Tryz.underlying5 Tryz.underlying3) ?_;refine .cG (x:=.ptr n4 256) rfl rfl (bD (decide_eq_false c8)) (.fldPtr rfl rfl Tryz.underlying42 rfl KM _ rfl) ?_;refine .cG rfl rfl (bD (decide_eq_false c8)) (.load 0 rfl rfl rfl (.cast (.fldS (.fld0 .here)) rfl) Yd KM) ?_;refine .cG rfl rfl (bD (decide_eq_false c8)) (.move rfl rfl) ?_;obtain⟨g10,q6⟩:=AC q6;refine .a 5 ?_;cases q6;refine .nilE rfl ?_;exact⟨rfl,rfl,rfl,rfl,trivial⟩
 rcases oi h with⟨c11,h⟩|⟨c11,h⟩
 ·refine .a 4 ?_;refine .nS [6] [] ?_;refine .rK [6] ?_;cases h;exact⟨[(AB (-1:Int))],⟨rfl,rfl,trivial⟩,rfl⟩
 refine .a 3 ?_;refine .regQ (by rfl) (by decide+kernel) ?_;refine .a 3 ?_;obtain⟨g12,h⟩:=AC h;refine .a 4 ?_;obtain⟨g13,h⟩:=AC h;refine .c (.idxP rfl rfl rfl g13 Tryz.underlying38 Ew) ?_;refine .c (.load 0 rfl rfl rfl (.cast (.fld0 (.vidx p2 g13.1 g13.2 .here)) (by omega)) Ol Ew) ?_;obtain⟨g14,h⟩:=AC h;refine .a 3 ?_;refine .nK [6] ?_;refine .rH [6] (H':=[]) (.nil _) ?_;cases h;exact⟨[(AB (AA (AA p0.f1 p1) (AZ p0.f0 p2)))],⟨rfl,rfl,trivial⟩,rfl⟩
def Oy (k:Nat) (x5:Int):Option Int:=
 some (x5)
def Fa (k:Nat) (p0:AI) (p2:ByteArray):Nat→Int→Int→Option Int
 | 0,_,_=>none
 | j+1,x6,x7=>
   if x7<(p2.size:Int)then if 0≤x7∧x7<(p2.size:Int)then(Y3 k p0 x6 (AG (AF p2 x7))).bind fun t12=>
   (Fa k p0 p2 j) t12 (AG (x7+(1:Int)))
   else none
   else Oy k x6
def Yi (k:Nat) (p0:AI) (p1:Int) (p2:ByteArray):Option Int:=
 Fa k p0 p2 k p1 (0:Int)
theorem E1 {k:Nat} {p0:AI} {p1:Int} {p2:ByteArray} {r:Int} (h:Yi k p0 p1 p2=some r):AY Tryz.prog 16 [(Ak p0),(AB p1),(AN p2)] (AB r):=by
 rw[Yi.eq_1]at h;refine AY.intro (res:=[.tmp 6]) Tryz.func16 rfl rfl rfl (Nat.le_of_ble_eq_true rfl) ?_;refine .sr ?_;refine .box rfl 3 rfl (by decide) rfl rfl rfl fun n4=>?_;refine .a 1 ?_;refine .nK [1,2,3] ?_;refine .seq_mid (fun ρ H=>∃ (x5:Int),ρ=[(1,(AB x5))]∧H=[]∧Oy k x5=some r) ?_ ?_
 ·refine .a 5 ?_;refine .wK [1,2,3,7] ?_;refine .loop (fun kq ρ H=>∃ (x6:Int) (x7:Int),ρ=[(1,(AB x6)),(2,(AN p2)),(3,(.ptr n4 0)),(7,(AB x7))]∧H=[(n4,(.mem (Ak p0)))]∧Fa k p0 p2 kq x6 x7=some r) k ⟨p1,(0:Int),rfl,rfl,h⟩ ?_;rintro kq9 _ _ ⟨x6,x7,rfl,rfl,h⟩
  cases kq9 with
  | zero=>rw[Fa.eq_1]at h;cases h
  | succ kq9=>
  rw[Fa.eq_2]at h;generalize hrec8:Fa k p0 p2 kq9=rec8 at h;refine .a 8 ?_;rcases oi h with⟨c10,h⟩|⟨c10,h⟩
  ·refine .a 4 ?_;refine .regQ (by rfl) (by decide+kernel) ?_;refine .a 4 ?_;obtain⟨g11,h⟩:=AC h;refine .a 2 ?_;obtain⟨t12,et12,h⟩:=ob h;refine .c (.call (args:=[(Ak p0),(AB x6),(AB (AG (AF p2 x7)))]) rfl rfl ch ⟨rfl,rfl,rfl,rfl,rfl,rfl,trivial⟩ rfl (UF et12)) ?_;refine .a 6 ?_;refine .nK [1,2,3,7] ?_;exact⟨kq9,Nat.lt_succ_self _,t12,(AG (x7+(1:Int))),rfl,rfl,by rw[hrec8];exact h⟩
  refine .a 1 ?_;refine .eH [1] (H':=[]) (.nil _) ?_;exact⟨x6,rfl,rfl,h⟩
 rintro _ _ ⟨x5,rfl,rfl,h⟩;rw[Oy.eq_1]at h;refine .a 4 ?_;refine .nK [6] ?_;refine .rK [6] ?_;have hr:=Option.some.inj h;subst hr;exact⟨[(AB x5)],⟨rfl,rfl,trivial⟩,rfl⟩
def WE (k:Nat) (p0:AI) (p1:Int):Option Int:=
 Option.bind (α:=Bool) (if p1<(0:Int)then some (true)
 else some (decide ((p0.f2.length:Int)≤p1))) fun b4=>
 if b4=true then some ((-1:Int))
 else if 0≤p1∧p1<(p0.f2.length:Int)then some ((AA p0.f2 p1))
 else none
theorem DA {k:Nat} {p0:AI} {p1:Int} {r:Int} (h:WE k p0 p1=some r):AY Tryz.prog 15 [(Ak p0),(AB p1)] (AB r):=by
 rw[WE.eq_1]at h;refine AY.intro (res:=[.tmp 4]) Tryz.func15 rfl rfl rfl (Nat.le_of_ble_eq_true rfl) ?_;refine .sr ?_;refine .box rfl 2 rfl (by decide) rfl rfl rfl fun n3=>?_;refine .a 4 ?_;obtain⟨b4,q5,h⟩:=ob h;refine .regM [(1,(AB p1)),(2,(.ptr n3 0)),(13,(AD b4))] [(n3,(.mem (Ak p0)))] ?_ ?_
 ·refine .a 3 ?_;rcases oi q5 with⟨c6,q5⟩|⟨c6,q5⟩
  ·refine .a 6 ?_;cases q5;refine .nilE ⟨rfl,rfl⟩ ?_ ?_
   ·exact⟨rfl,rfl,rfl,trivial⟩
   exact(.refl _)
  refine .a 6 ?_;cases q5;refine .nilE ⟨rfl,rfl⟩ ?_ ?_
  ·exact⟨rfl,rfl,rfl,trivial⟩
  exact(.refl _)
 rcases oi h with⟨c7,h⟩|⟨c7,h⟩
 ·refine .a 4 ?_;refine .nS [4] [] ?_;refine .rK [4] ?_;cases h;exact⟨[(AB (-1:Int))],⟨rfl,rfl,trivial⟩,rfl⟩
 refine .a 7 ?_;obtain⟨g8,h⟩:=AC h;refine .a 3 ?_;refine .nS [4] [] ?_;refine .rK [4] ?_;cases h;exact⟨[(AB (AA p0.f2 p1))],⟨rfl,rfl,trivial⟩,rfl⟩
def O8 (k:Nat) (x11:(List Bool)):Option (List Bool):=
 some (x11)
def Lp (k:Nat) (rec27:((List Bool)→(List Int)→Int→Option (List Bool))) (x26:Int) (x30:(List Bool)) (x32:(List Int)):Option (List Bool):=
 rec27 x30 x32 (AG (x26+(1:Int)))
def G6 (k:Nat) (rec16:((List Bool)→(List Int)→Option (List Bool))) (p0:AI) (x15:(List Int)):Nat→(List Bool)→(List Int)→Int→Option (List Bool)
 | 0,_,_,_=>none
 | j+1,x23,x25,x26=>
   if x26<((AA p0.f1 (AA x15 (0:Int))).length:Int)then if 0≤x26∧x26<((AA p0.f1 (AA x15 (0:Int))).length:Int)then Option.bind (α:=Bool) (if(0:Int)≤(AA (AA p0.f1 (AA x15 (0:Int))) x26)then if(AA (AA p0.f1 (AA x15 (0:Int))) x26)<(x23.length:Int)then if 0≤(AA (AA p0.f1 (AA x15 (0:Int))) x26)∧(AA (AA p0.f1 (AA x15 (0:Int))) x26)<(x23.length:Int)then some (!(AA x23 (AA (AA p0.f1 (AA x15 (0:Int))) x26)))
   else none
   else some (false)
   else some (false)) fun b34=>
   if b34=true then if 0≤(AA (AA p0.f1 (AA x15 (0:Int))) x26)∧(AA (AA p0.f1 (AA x15 (0:Int))) x26)<(x23.length:Int)then if(x25++([(AA (AA p0.f1 (AA x15 (0:Int))) x26)]:List Int)).length*8≤140737488355328 then Lp k (G6 k rec16 p0 x15 j) x26 (AU x23 (AA (AA p0.f1 (AA x15 (0:Int))) x26) true) (x25++([(AA (AA p0.f1 (AA x15 (0:Int))) x26)]:List Int))
   else none
   else none
   else Lp k (G6 k rec16 p0 x15 j) x26 x23 x25
   else none
   else rec16 x23 x25
def IH (k:Nat) (p0:AI):Nat→(List Bool)→(List Int)→Option (List Bool)
 | 0,_,_=>none
 | j+1,x13,x15=>
   if(0:Int)<(x15.length:Int)then if 0≤(0:Int)∧(0:Int)<(x15.length:Int)then if 0≤(1:Int)∧(1:Int)≤(x15.length:Int)then if 0≤(AA x15 (0:Int))∧(AA x15 (0:Int))<(p0.f1.length:Int)then G6 k (IH k p0 j) p0 x15 k x13 (x15.drop (1:Int).toNat) (0:Int)
   else none
   else none
   else none
   else O8 k x13
def cj (k:Nat) (p0:AI) (p1:Int):Option (List Bool):=
 if 0≤(p0.f1.length:Int)∧(p0.f1.length:Int)*(1:Int)≤140737488355328∧(p0.f1.length:Int)≤9223372036854775807 then Option.bind (α:=Bool) (if p1<(0:Int)then some (true)
 else some (decide (((List.replicate (p0.f1.length:Int).toNat false).length:Int)≤p1))) fun b6=>
 if b6=true then some ((List.replicate (p0.f1.length:Int).toNat false))
 else if 0≤p1∧p1<((List.replicate (p0.f1.length:Int).toNat false).length:Int)then IH k p0 k (AU (List.replicate (p0.f1.length:Int).toNat false) p1 true) ([p1]:List Int)
 else none
 else none
theorem UH {k:Nat} {p0:AI} {p1:Int} {r:(List Bool)} (h:cj k p0 p1=some r):AY Tryz.prog 62 [(Ak p0),(AB p1)] (G7 r):=by
 rw[cj.eq_1]at h;refine AY.intro (res:=[.tmp 4]) Tryz.func62 rfl rfl rfl (Nat.le_of_ble_eq_true rfl) ?_;refine .sr ?_;refine .box rfl 2 rfl (by decide) rfl rfl rfl fun n3=>?_;refine .a 7 ?_;obtain⟨g5,h⟩:=AC h;refine .makeL (f:=AD) false rfl 13 rfl (by decide) rfl rfl rfl Tryz.underlying95 Bw KI G3 D9 rfl g5 fun n4=>?_;refine .a 1 ?_;refine .nS [1,2,5] [1,0] ?_;refine .a 2 ?_;obtain⟨b6,q7,h⟩:=ob h;refine .regM [(1,(AB p1)),(2,(.ptr n3 0)),(5,(BL n4 (List.replicate (p0.f1.length:Int).toNat false).length)),(21,(AD b6))] [(n3,(.mem (Ak p0))),(Z9 n4 (List.replicate (p0.f1.length:Int).toNat false))] ?_ ?_
 ·refine .a 3 ?_;rcases oi q7 with⟨c8,q7⟩|⟨c8,q7⟩
  ·refine .a 5 ?_;cases q7;refine .nilE ⟨rfl,rfl⟩ ?_ ?_
   ·exact⟨rfl,rfl,rfl,rfl,trivial⟩
   exact(.refl _)
  refine .a 5 ?_;cases q7;refine .nilE ⟨rfl,rfl⟩ ?_ ?_
  ·exact⟨rfl,rfl,rfl,rfl,trivial⟩
  exact(.refl _)
 rcases oi h with⟨c9,h⟩|⟨c9,h⟩
 ·refine .a 5 ?_;refine .nS [4] [1] ?_;refine .freezeS 0 [(4,(Ln (List.replicate (p0.f1.length:Int).toNat false)))] rfl ⟨Aj rfl,trivial⟩ ?_;refine .rK [4] ?_;cases h;exact⟨[(Ln (List.replicate (p0.f1.length:Int).toNat false))],⟨rfl,rfl,trivial⟩,rfl⟩
 refine .a 6 ?_;obtain⟨g10,h⟩:=AC h;refine .a 1 ?_;refine .store 1 rfl rfl rfl rfl rfl rfl (.cast (.lidx p1 true g10.1 g10.2 .here) (by omega)) rfl rfl Bw rfl ?_;refine .coe 5 (y':=(BL n4 (AU (List.replicate (p0.f1.length:Int).toNat false) p1 true).length)) rfl (fun _ _ h=>Ad h) ?_;refine .coe 23 (y':=(BL n4 (AU (List.replicate (p0.f1.length:Int).toNat false) p1 true).length)) rfl (fun _ _ h=>Ad h) ?_;refine .nK [1,2,5] ?_;refine .seq_mid (fun ρ H=>∃ (x11:(List Bool)),ρ=[(5,(.own n4 0 x11.length))]∧H=[(Z9 n4 x11)]∧O8 k x11=some r) ?_ ?_
 ·refine .a 3 ?_;refine .lit (Z:=(AB (0:Int))) (xs:=(([p1]:List Int).map AB)) (qs:=[(0,(AB p1))]) rfl 27 rfl (by decide) rfl ⟨rfl,rfl,rfl,trivial⟩ Tryz.underlying40 Bb Fj DT rfl (by decide) (An (z:=1) [(AB p1)] rfl ⟨⟨rfl,rfl⟩,trivial⟩) rfl fun n12=>?_;refine .a 1 ?_;refine .nS [2,5,6] [1,2,0] ?_;refine .a 1 ?_;refine .wK [2,5,6] ?_;refine .loop (fun kq ρ H=>∃ (n14:Nat) (x13:(List Bool)) (x15:(List Int)),ρ=[(2,(.ptr n3 0)),(5,(.own n4 0 x13.length)),(6,(.own n14 0 x15.length))]∧H=[(n3,(.mem (Ak p0))),(Z9 n4 x13),(n14,(Z3 x15))]∧IH k p0 kq x13 x15=some r) k ⟨n12,(AU (List.replicate (p0.f1.length:Int).toNat false) p1 true),([p1]:List Int),rfl,rfl,h⟩ ?_;rintro kq17 _ _ ⟨n14,x13,x15,rfl,rfl,h⟩
  cases kq17 with
  | zero=>rw[IH.eq_1]at h;cases h
  | succ kq17=>
  rw[IH.eq_2]at h;generalize hrec16:IH k p0 kq17=rec16 at h;refine .a 7 ?_;rcases oi h with⟨c18,h⟩|⟨c18,h⟩
  ·refine .a 6 ?_;obtain⟨g19,h⟩:=AC h;refine .c (.idxO 2 rfl rfl rfl rfl g19 Tryz.underlying40 Bb) ?_;refine .c (.load 2 rfl rfl rfl (.cast (.lidx (0:Int) g19.1 g19.2 .here) (by omega)) Rl Bb) ?_;refine .ag rfl rfl ?_;refine .nK [2,5,6,7] ?_;refine .sr ?_;refine .mv rfl rfl ?_;obtain⟨g20,h⟩:=AC h;refine .sufNew (l:=x15) (f:=AB) 2 35 rfl (by decide) rfl rfl rfl rfl rfl g20 Tryz.underlying40 Bb fun n21=>?_;refine .a 7 ?_;obtain⟨g22,h⟩:=AC h;refine .a 6 ?_;refine .wK [2,5,6,40,41,42] ?_;refine .loop (fun kq ρ H=>∃ (n24:Nat) (x23:(List Bool)) (x25:(List Int)) (x26:Int),ρ=[(2,(.ptr n3 0)),(5,(.own n4 0 x23.length)),(6,(.own n24 0 x25.length)),(40,(Df (AA p0.f1 (AA x15 (0:Int))))),(41,(AB ((AA p0.f1 (AA x15 (0:Int))).length:Int))),(42,(AB x26))]∧H=[(n3,(.mem (Ak p0))),(Z9 n4 x23),(n24,(Z3 x25))]∧G6 k rec16 p0 x15 kq x23 x25 x26=some r) k ⟨n21,x13,(x15.drop (1:Int).toNat),(0:Int),rfl,rfl,h⟩ ?_;rintro kq28 _ _ ⟨n24,x23,x25,x26,rfl,rfl,h⟩
   cases kq28 with
   | zero=>rw[G6.eq_1]at h;cases h
   | succ kq28=>
   rw[G6.eq_2]at h;generalize hrec27:G6 k rec16 p0 x15 kq28=rec27 at h;refine .a 5 ?_;rcases oi h with⟨c29,h⟩|⟨c29,h⟩
   ·refine .a 1 ?_;refine .sK [2,5,6,40,41,42] ?_;refine .seq_mid (fun ρ H=>∃ (n31:Nat) (x30:(List Bool)) (x32:(List Int)),ρ=[(2,(.ptr n3 0)),(5,(.own n4 0 x30.length)),(6,(.own n31 0 x32.length)),(40,(Df (AA p0.f1 (AA x15 (0:Int))))),(41,(AB ((AA p0.f1 (AA x15 (0:Int))).length:Int))),(42,(AB x26))]∧H=[(n3,(.mem (Ak p0))),(Z9 n4 x30),(n31,(Z3 x32))]∧Lp k rec27 x26 x30 x32=some r) ?_ ?_
    ·refine .a 3 ?_;obtain⟨g33,h⟩:=AC h;refine .a 5 ?_;obtain⟨b34,q35,h⟩:=ob h;refine .regM [(2,(.ptr n3 0)),(5,(.own n4 0 x23.length)),(6,(.own n24 0 x25.length)),(9,(AB (AA (AA p0.f1 (AA x15 (0:Int))) x26))),(40,(Df (AA p0.f1 (AA x15 (0:Int))))),(41,(AB ((AA p0.f1 (AA x15 (0:Int))).length:Int))),(42,(AB x26)),(60,(AD b34))] [(n3,(.mem (Ak p0))),(Z9 n4 x23),(n24,(Z3 x25))] ?_ ?_
     ·refine .a 3 ?_;rcases oi q35 with⟨c36,q35⟩|⟨c36,q35⟩
      ·refine .a 6 ?_;rcases oi q35 with⟨c37,q35⟩|⟨c37,q35⟩
       ·refine .a 2 ?_;obtain⟨g38,q35⟩:=AC q35;refine .cG rfl rfl (bD (decide_eq_true c37)) (.idxO 1 rfl rfl rfl rfl g38 Tryz.underlying95 Bw) ?_;refine .cG rfl rfl (bD (decide_eq_true c37)) (.load 1 rfl rfl rfl (.cast (.lidx (AA (AA p0.f1 (AA x15 (0:Int))) x26) g38.1 g38.2 .here) (by omega)) TF Bw) ?_;refine .cG rfl rfl (bD (decide_eq_true c37)) (.not rfl rfl) ?_;refine .c (.pickT rfl (bD (decide_eq_true c37)) rfl) ?_;cases q35;refine .nilE ⟨rfl,rfl⟩ ?_ ?_
        ·exact⟨rfl,rfl,rfl,rfl,rfl,rfl,rfl,rfl,trivial⟩
        exact(.refl _)
       refine .a 6 ?_;cases q35;refine .nilE ⟨rfl,rfl⟩ ?_ ?_
       ·exact⟨rfl,rfl,rfl,rfl,rfl,rfl,rfl,rfl,trivial⟩
       exact(.refl _)
      refine .a 12 ?_;cases q35;refine .nilE ⟨rfl,rfl⟩ ?_ ?_
      ·exact⟨rfl,rfl,rfl,rfl,rfl,rfl,rfl,rfl,trivial⟩
      exact(.refl _)
     rcases oi h with⟨c39,h⟩|⟨c39,h⟩
     ·refine .a 5 ?_;obtain⟨g40,h⟩:=AC h;refine .a 1 ?_;refine .store 1 rfl rfl rfl rfl rfl rfl (.cast (.lidx (AA (AA p0.f1 (AA x15 (0:Int))) x26) true g40.1 g40.2 .here) (by omega)) rfl rfl Bw rfl ?_;refine .coe 5 (y':=(BL n4 (AU x23 (AA (AA p0.f1 (AA x15 (0:Int))) x26) true).length)) rfl (fun _ _ h=>Ad h) ?_;refine .coe 61 (y':=(BL n4 (AU x23 (AA (AA p0.f1 (AA x15 (0:Int))) x26) true).length)) rfl (fun _ _ h=>Ad h) ?_;refine .a 4 ?_;refine .lit (Z:=(AB (0:Int))) (xs:=(([(AA (AA p0.f1 (AA x15 (0:Int))) x26)]:List Int).map AB)) (qs:=[(0,(AB (AA (AA p0.f1 (AA x15 (0:Int))) x26)))]) rfl 66 rfl (by decide) rfl ⟨rfl,rfl,rfl,trivial⟩ Tryz.underlying40 Bb Fj DT rfl (by decide) (An (z:=1) [(AB (AA (AA p0.f1 (AA x15 (0:Int))) x26))] rfl ⟨⟨rfl,rfl⟩,trivial⟩) rfl fun n41=>?_;obtain⟨g43,h⟩:=AC h;refine .appendL (l:=x25) (m:=([(AA (AA p0.f1 (AA x15 (0:Int))) x26)]:List Int)) 3 67 rfl (by decide) rfl rfl rfl rfl rfl (CS.ownL (f:=AB) (l:=([(AA (AA p0.f1 (AA x15 (0:Int))) x26)]:List Int)) 0 rfl) Tryz.underlying40 Tryz.underlying40 Bb KP Fj rfl g43 (by decide) fun n42=>?_;refine .a 1 ?_;refine .nS [2,5,6,40,41,42] [1,2,3] ?_;exact⟨n42,(AU x23 (AA (AA p0.f1 (AA x15 (0:Int))) x26) true),(x25++([(AA (AA p0.f1 (AA x15 (0:Int))) x26)]:List Int)),rfl,rfl,h⟩
     refine .a 1 ?_;refine .sK [2,5,6,40,41,42] ?_;exact⟨n24,x23,x25,rfl,rfl,h⟩
    rintro _ _ ⟨n31,x30,x32,rfl,rfl,h⟩;rw[Lp.eq_1]at h;refine .a 3 ?_;refine .nK [2,5,6,40,41,42] ?_;exact⟨kq28,Nat.lt_succ_self _,n31,x30,x32,(AG (x26+(1:Int))),rfl,rfl,by rw[hrec27];exact h⟩
   refine .a 1 ?_;refine .eK [2,5,6] ?_;exact⟨kq17,Nat.lt_succ_self _,n24,x23,x25,rfl,rfl,by rw[hrec16];exact h⟩
  refine .a 1 ?_;refine .eH [5] (H':=[(Z9 n4 x13)]) (.cons 1 rfl (.nil _)) ?_;exact⟨x13,rfl,rfl,h⟩
 rintro _ _ ⟨x11,rfl,rfl,h⟩;rw[O8.eq_1]at h;refine .a 4 ?_;refine .nK [4] ?_;refine .freezeS 0 [(4,(.fz 1 (x11.map AD)))] rfl ⟨Aj rfl,trivial⟩ ?_;refine .rK [4] ?_;have hr:=Option.some.inj h;subst hr;exact⟨[(.fz 1 (x11.map AD))],⟨rfl,rfl,trivial⟩,rfl⟩
def O0 (k:Nat) (x9:(List Int)):Option (List Int):=
 some (x9)
def Lu (k:Nat) (rec13:((List Int)→Int→Option (List Int))) (x12:Int) (x17:(List Int)):Option (List Int):=
 rec13 x17 (AG (x12+(1:Int)))
def Gu (k:Nat) (x7:(List Bool)):Nat→(List Int)→Int→Option (List Int)
 | 0,_,_=>none
 | j+1,x11,x12=>
   if x12<(x7.length:Int)then if 0≤x12∧x12<(x7.length:Int)then if(!(AA x7 x12))=true then if(x11++([x12]:List Int)).length*8≤140737488355328 then Lu k (Gu k x7 j) x12 (x11++([x12]:List Int))
   else none
   else Lu k (Gu k x7 j) x12 x11
   else none
   else O0 k x11
def Oo (k:Nat) (x7:(List Bool)):Option (List Int):=
 Gu k x7 k ([]:List Int) (0:Int)
def MM (k:Nat) (rec26:((List Bool)→Int→Option (List Int))) (x25:Int) (x29:(List Bool)):Option (List Int):=
 rec26 x29 (AG (x25+(1:Int)))
def G5 (k:Nat) (p0:AI) (p1:Int) (t6:(List Bool)):Nat→(List Bool)→Int→Option (List Int)
 | 0,_,_=>none
 | j+1,x24,x25=>
   if x25<(p0.f2.length:Int)then if 0≤x25∧x25<(p0.f2.length:Int)then Option.bind (α:=Bool) (if(0:Int)≤(AA p0.f2 x25)then if(AA p0.f2 x25)<p1 then if 0≤x25∧x25<(t6.length:Int)then some ((AA t6 x25))
   else none
   else some (false)
   else some (false)) fun b31=>
   if b31=true then if 0≤(AA p0.f2 x25)∧(AA p0.f2 x25)<(x24.length:Int)then MM k (G5 k p0 p1 t6 j) x25 (AU x24 (AA p0.f2 x25) true)
   else none
   else MM k (G5 k p0 p1 t6 j) x25 x24
   else none
   else Oo k x24
def bJ (k:Nat) (p0:AI) (p1:Int):Option (List Int):=
 if 0≤(max p1 (0:Int))∧(max p1 (0:Int))*(1:Int)≤140737488355328∧(max p1 (0:Int))≤9223372036854775807 then(cj k p0 (0:Int)).bind fun t6=>
 G5 k p0 p1 t6 k (List.replicate (max p1 (0:Int)).toNat false) (0:Int)
 else none
theorem Sh {k:Nat} {p0:AI} {p1:Int} {r:(List Int)} (h:bJ k p0 p1=some r):AY Tryz.prog 35 [(Ak p0),(AB p1)] (Ce r):=by
 rw[bJ.eq_1]at h;refine AY.intro (res:=[.tmp 4]) Tryz.func35 rfl rfl rfl (Nat.le_of_ble_eq_true rfl) ?_;refine .sr ?_;refine .box rfl 2 rfl (by decide) rfl rfl rfl fun n3=>?_;refine .a 5 ?_;refine .c (x:=AB (max p1 (0:Int))) (.max2 rfl rfl rfl) ?_;obtain⟨g5,h⟩:=AC h;refine .makeL (f:=AD) false rfl 14 rfl (by decide) rfl rfl rfl Tryz.underlying95 Bw KI G3 D9 rfl g5 fun n4=>?_;refine .a 1 ?_;refine .nS [1,2,5] [1,0] ?_;refine .a 3 ?_;obtain⟨t6,et6,h⟩:=ob h;refine .callS [(Ak p0),(AB (0:Int))] (.fz 1 (t6.map AD)) 16 rfl (by decide) cb rfl rfl rfl ⟨rfl,rfl,rfl,rfl,trivial⟩ (UH et6) ?_;refine .a 1 ?_;refine .nK [1,2,5,6] ?_;refine .seq_mid (fun ρ H=>∃ (x7:(List Bool)),ρ=[(5,(.own n4 0 x7.length))]∧H=[(Z9 n4 x7)]∧Oo k x7=some r) ?_ ?_
 ·refine .a 6 ?_;refine .nS [1,5,6,18,19,20] [1] ?_;refine .a 1 ?_;refine .wK [1,5,6,18,19,20] ?_;refine .loop (fun kq ρ H=>∃ (x24:(List Bool)) (x25:Int),ρ=[(1,(AB p1)),(5,(.own n4 0 x24.length)),(6,(.fz 1 (t6.map AD))),(18,(Df p0.f2)),(19,(AB (p0.f2.length:Int))),(20,(AB x25))]∧H=[(Z9 n4 x24)]∧G5 k p0 p1 t6 kq x24 x25=some r) k ⟨(List.replicate (max p1 (0:Int)).toNat false),(0:Int),rfl,rfl,h⟩ ?_;rintro kq27 _ _ ⟨x24,x25,rfl,rfl,h⟩
  cases kq27 with
  | zero=>rw[G5.eq_1]at h;cases h
  | succ kq27=>
  rw[G5.eq_2]at h;generalize hrec26:G5 k p0 p1 t6 kq27=rec26 at h;refine .a 5 ?_;rcases oi h with⟨c28,h⟩|⟨c28,h⟩
  ·refine .a 1 ?_;refine .sK [1,5,6,18,19,20] ?_;refine .seq_mid (fun ρ H=>∃ (x29:(List Bool)),ρ=[(1,(AB p1)),(5,(.own n4 0 x29.length)),(6,(.fz 1 (t6.map AD))),(18,(Df p0.f2)),(19,(AB (p0.f2.length:Int))),(20,(AB x25))]∧H=[(Z9 n4 x29)]∧MM k rec26 x25 x29=some r) ?_ ?_
   ·refine .a 4 ?_;obtain⟨g30,h⟩:=AC h;refine .a 6 ?_;obtain⟨b31,q32,h⟩:=ob h;refine .regM [(1,(AB p1)),(5,(.own n4 0 x24.length)),(6,(.fz 1 (t6.map AD))),(8,(AB (AA p0.f2 x25))),(18,(Df p0.f2)),(19,(AB (p0.f2.length:Int))),(20,(AB x25)),(37,(AD b31))] [(Z9 n4 x24)] ?_ ?_
    ·refine .a 3 ?_;rcases oi q32 with⟨c33,q32⟩|⟨c33,q32⟩
     ·refine .a 5 ?_;rcases oi q32 with⟨c34,q32⟩|⟨c34,q32⟩
      ·refine .a 2 ?_;obtain⟨g35,q32⟩:=AC q32;refine .a 3 ?_;cases q32;refine .nilE ⟨rfl,rfl⟩ ?_ ?_
       ·exact⟨rfl,rfl,rfl,rfl,rfl,rfl,rfl,rfl,trivial⟩
       exact(.refl _)
      refine .a 5 ?_;cases q32;refine .nilE ⟨rfl,rfl⟩ ?_ ?_
      ·exact⟨rfl,rfl,rfl,rfl,rfl,rfl,rfl,rfl,trivial⟩
      exact(.refl _)
     refine .a 10 ?_;cases q32;refine .nilE ⟨rfl,rfl⟩ ?_ ?_
     ·exact⟨rfl,rfl,rfl,rfl,rfl,rfl,rfl,rfl,trivial⟩
     exact(.refl _)
    rcases oi h with⟨c36,h⟩|⟨c36,h⟩
    ·refine .a 4 ?_;obtain⟨g37,h⟩:=AC h;refine .a 1 ?_;refine .store 0 rfl rfl rfl rfl rfl rfl (.cast (.lidx (AA p0.f2 x25) true g37.1 g37.2 .here) (by omega)) rfl rfl Bw rfl ?_;refine .coe 5 (y':=(BL n4 (AU x24 (AA p0.f2 x25) true).length)) rfl (fun _ _ h=>Ad h) ?_;refine .coe 38 (y':=(BL n4 (AU x24 (AA p0.f2 x25) true).length)) rfl (fun _ _ h=>Ad h) ?_;refine .nK [1,5,6,18,19,20] ?_;exact⟨(AU x24 (AA p0.f2 x25) true),rfl,rfl,h⟩
    refine .a 1 ?_;refine .sK [1,5,6,18,19,20] ?_;exact⟨x24,rfl,rfl,h⟩
   rintro _ _ ⟨x29,rfl,rfl,h⟩;rw[MM.eq_1]at h;refine .a 3 ?_;refine .nK [1,5,6,18,19,20] ?_;exact⟨kq27,Nat.lt_succ_self _,x29,(AG (x25+(1:Int))),rfl,rfl,by rw[hrec26];exact h⟩
  refine .a 1 ?_;refine .eK [5] ?_;exact⟨x24,rfl,rfl,h⟩
 rintro _ _ ⟨x7,rfl,rfl,h⟩;rw[Oo.eq_1]at h;refine .a 3 ?_;refine .nK [5,9] ?_;refine .seq_mid (fun ρ H=>∃ (n8:Nat) (x9:(List Int)),ρ=[(9,(.own n8 0 x9.length))]∧H=[(n8,(Z3 x9))]∧O0 k x9=some r) ?_ ?_
 ·refine .a 7 ?_;refine .nilOwn 9 1 rfl fun n23=>?_;refine .wK [9,42,43,44] ?_;refine .loop (fun kq ρ H=>∃ (n10:Nat) (x11:(List Int)) (x12:Int),ρ=[(9,(.own n10 0 x11.length)),(42,(.own n4 0 x7.length)),(43,(AB (x7.length:Int))),(44,(AB x12))]∧H=[(n10,(Z3 x11)),(Z9 n4 x7)]∧Gu k x7 kq x11 x12=some r) k ⟨n23,([]:List Int),(0:Int),rfl,rfl,h⟩ ?_;rintro kq14 _ _ ⟨n10,x11,x12,rfl,rfl,h⟩
  cases kq14 with
  | zero=>rw[Gu.eq_1]at h;cases h
  | succ kq14=>
  rw[Gu.eq_2]at h;generalize hrec13:Gu k x7 kq14=rec13 at h;refine .a 5 ?_;rcases oi h with⟨c15,h⟩|⟨c15,h⟩
  ·refine .a 1 ?_;refine .sK [9,42,43,44] ?_;refine .seq_mid (fun ρ H=>∃ (n16:Nat) (x17:(List Int)),ρ=[(9,(.own n16 0 x17.length)),(42,(.own n4 0 x7.length)),(43,(AB (x7.length:Int))),(44,(AB x12))]∧H=[(n16,(Z3 x17)),(Z9 n4 x7)]∧Lu k rec13 x12 x17=some r) ?_ ?_
   ·refine .a 4 ?_;obtain⟨g18,h⟩:=AC h;refine .c (.idxO 1 rfl rfl rfl rfl g18 Tryz.underlying95 Bw) ?_;refine .c (.load 1 rfl rfl rfl (.cast (.lidx x12 g18.1 g18.2 .here) (by omega)) TF Bw) ?_;refine .ag rfl rfl ?_;refine .ag rfl rfl ?_;refine .nK [9,10,11,42,43,44] ?_;refine .sr ?_;refine .mv rfl rfl ?_;refine .c (.not rfl rfl) ?_;refine .nK [9,10,42,43,44,50] ?_;rcases oi h with⟨c19,h⟩|⟨c19,h⟩
    ·refine .a 4 ?_;refine .lit (Z:=(AB (0:Int))) (xs:=(([x12]:List Int).map AB)) (qs:=[(0,(AB x12))]) rfl 53 rfl (by decide) rfl ⟨rfl,rfl,rfl,trivial⟩ Tryz.underlying40 Bb Fj DT rfl (by decide) (An (z:=1) [(AB x12)] rfl ⟨⟨rfl,rfl⟩,trivial⟩) rfl fun n20=>?_;obtain⟨g22,h⟩:=AC h;refine .appendL (l:=x11) (m:=([x12]:List Int)) 1 54 rfl (by decide) rfl rfl rfl rfl rfl (CS.ownL (f:=AB) (l:=([x12]:List Int)) 0 rfl) Tryz.underlying40 Tryz.underlying40 Bb KP Fj rfl g22 (by decide) fun n21=>?_;refine .a 1 ?_;refine .nS [9,42,43,44] [1,2] ?_;exact⟨n21,(x11++([x12]:List Int)),rfl,rfl,h⟩
    refine .a 1 ?_;refine .sK [9,42,43,44] ?_;exact⟨n10,x11,rfl,rfl,h⟩
   rintro _ _ ⟨n16,x17,rfl,rfl,h⟩;rw[Lu.eq_1]at h;refine .a 3 ?_;refine .nK [9,42,43,44] ?_;exact⟨kq14,Nat.lt_succ_self _,n16,x17,(AG (x12+(1:Int))),rfl,rfl,by rw[hrec13];exact h⟩
  refine .a 1 ?_;refine .eH [9] (H':=[(n10,(Z3 x11))]) (.cons 0 rfl (.nil _)) ?_;exact⟨n10,x11,rfl,rfl,h⟩
 rintro _ _ ⟨n8,x9,rfl,rfl,h⟩;rw[O0.eq_1]at h;refine .a 4 ?_;refine .nK [4] ?_;refine .freezeS 0 [(4,(.fz 1 (x9.map AB)))] rfl ⟨Aj rfl,trivial⟩ ?_;refine .rK [4] ?_;have hr:=Option.some.inj h;subst hr;exact⟨[(.fz 1 (x9.map AB))],⟨rfl,rfl,trivial⟩,rfl⟩
def bA (k:Nat):Option Bool:=
 (ZZ k [(CN.mk (ByteArray.mk #[105,102]) (0:Int) (ByteArray.mk #[105,102])),(CN.mk (ByteArray.mk #[105,100]) (0:Int) (ByteArray.mk #[91,97,45,122,93,43]))]).bind fun t2=>
 Option.bind (α:=Bool) (if t2.2=(0:Int)then(Yi k t2.1 (0:Int) (ByteArray.mk #[105,102])).bind fun t7=>
 (WE k t2.1 t7).bind fun t8=>
 if t8=(0:Int)then(Yi k t2.1 (0:Int) (ByteArray.mk #[105,102,115])).bind fun t10=>
 (WE k t2.1 t10).bind fun t11=>
 if t11=(1:Int)then(bJ k t2.1 (2:Int)).bind fun t13=>
 some (decide ((t13.length:Int)=(0:Int)))
 else some (false)
 else some (false)
 else some (false)) fun b4=>
 some (b4)
theorem T6 {k:Nat} {r:Bool} (h:bA k=some r):AY Tryz.prog 10 [] (AD r):=by
 rw[bA.eq_1]at h;refine AY.intro (res:=[.tmp 0]) Tryz.func10 rfl rfl rfl (Nat.le_of_ble_eq_true rfl) ?_;refine .a 6 ?_;refine .c (x:=(.st [(1,(AN (ByteArray.mk #[105,102]))),(1,(AB (0:Int))),(1,(AN (ByteArray.mk #[105,102])))])) (.build (qs:=[(0,(AN (ByteArray.mk #[105,102]))),(2,(AN (ByteArray.mk #[105,102])))]) rfl ⟨rfl,rfl,rfl,rfl,rfl,rfl,trivial⟩ Tryz.underlying53 rfl RO LJ (.cons rfl rfl rfl rfl (.cast (.fld0 .here) rfl) (.cons rfl rfl rfl rfl (.cast (.fldS (.fldS (.fld0 .here))) rfl) .nil)) rfl) ?_;refine .c (x:=(.st [(1,(AN (ByteArray.mk #[105,100]))),(1,(AB (0:Int))),(1,(AN (ByteArray.mk #[91,97,45,122,93,43])))])) (.build (qs:=[(0,(AN (ByteArray.mk #[105,100]))),(2,(AN (ByteArray.mk #[91,97,45,122,93,43])))]) rfl ⟨rfl,rfl,rfl,rfl,rfl,rfl,trivial⟩ Tryz.underlying53 rfl RO LJ (.cons rfl rfl rfl rfl (.cast (.fld0 .here) rfl) (.cons rfl rfl rfl rfl (.cast (.fldS (.fldS (.fld0 .here))) rfl) .nil)) rfl) ?_
 refine .lit (Z:=(.st [(1,(AN ByteArray.empty)),(1,(AB (0:Int))),(1,(AN ByteArray.empty))])) (xs:=(([(CN.mk (ByteArray.mk #[105,102]) (0:Int) (ByteArray.mk #[105,102])),(CN.mk (ByteArray.mk #[105,100]) (0:Int) (ByteArray.mk #[91,97,45,122,93,43]))]:List CN).map Es)) (qs:=[(0,(Es (CN.mk (ByteArray.mk #[105,102]) (0:Int) (ByteArray.mk #[105,102])))),(1,(Es (CN.mk (ByteArray.mk #[105,100]) (0:Int) (ByteArray.mk #[91,97,45,122,93,43]))))]) rfl 6 rfl (by decide) rfl ⟨rfl,rfl,rfl,rfl,rfl,rfl,trivial⟩ Tryz.underlying22 Om RO LJ rfl (by decide) (An (z:=3) [(Es (CN.mk (ByteArray.mk #[105,102]) (0:Int) (ByteArray.mk #[105,102]))),(Es (CN.mk (ByteArray.mk #[105,100]) (0:Int) (ByteArray.mk #[91,97,45,122,93,43])))] rfl ⟨⟨rfl,rfl⟩,⟨rfl,rfl⟩,trivial⟩) rfl fun n1=>?_;obtain⟨t2,et2,h⟩:=ob h;refine .freezeS 0 [(6,(.fz 3 (([(CN.mk (ByteArray.mk #[105,102]) (0:Int) (ByteArray.mk #[105,102])),(CN.mk (ByteArray.mk #[105,100]) (0:Int) (ByteArray.mk #[91,97,45,122,93,43]))]:List CN).map Es)))] rfl ⟨Aj rfl,trivial⟩ ?_;refine .callS [(.fz 3 (([(CN.mk (ByteArray.mk #[105,102]) (0:Int) (ByteArray.mk #[105,102])),(CN.mk (ByteArray.mk #[105,100]) (0:Int) (ByteArray.mk #[91,97,45,122,93,43]))]:List CN).map Es))] (.tup [(Ak t2.1),(AB t2.2)]) 7 rfl (by decide) Zo rfl rfl rfl ⟨rfl,rfl,trivial⟩ (OC et2) ?_;refine .a 3 ?_;refine .alloc rfl 1 rfl (by decide) rfl CY BV fun n3=>?_;refine .store 0 rfl rfl rfl rfl rfl rfl (.cast .here rfl) rfl rfl BQ rfl ?_;refine .a 3 ?_;obtain⟨b4,q5,h⟩:=ob h
 refine .toM [(0,(AD b4))] [] ?_ ?_
 ·rcases oi q5 with⟨c6,q5⟩|⟨c6,q5⟩
  ·obtain⟨t7,et7,q5⟩:=ob q5;obtain⟨t8,et8,q5⟩:=ob q5;rcases oi q5 with⟨c9,q5⟩|⟨c9,q5⟩
   ·obtain⟨t10,et10,q5⟩:=ob q5;obtain⟨t11,et11,q5⟩:=ob q5;rcases oi q5 with⟨c12,q5⟩|⟨c12,q5⟩
    ·obtain⟨t13,et13,q5⟩:=ob q5;refine .regAny (by rfl) (by decide+kernel) [(AB t2.2),(AD (decide (t2.2=(0:Int)))),(AD (decide (t2.2=(0:Int)))),(Ak t2.1),(Ak t2.1),(AB t7),(AB t8),(AD (decide (t8=(0:Int)))),(AD (decide (t8=(0:Int)))),(AD (decide (t8=(0:Int)))),(Ak t2.1),(Ak t2.1),(AB t10),(AB t11),(AD (decide (t11=(1:Int)))),(AD (decide (t11=(1:Int)))),(AD (decide (t11=(1:Int)))),(Ak t2.1),(.fz 1 (t13.map AB)),(AB (t13.length:Int)),(AD (decide ((t13.length:Int)=(0:Int)))),(AD (decide ((t13.length:Int)=(0:Int)))),(AD (decide ((t13.length:Int)=(0:Int))))] [(1,(.ptr n3 0)),(2,(AB t2.2))] ⟨rfl,rfl,trivial⟩ rfl ?_ [(0,(AD (decide ((t13.length:Int)=(0:Int)))))] [] ⟨rfl,trivial⟩ (.nil _) ?_
     ·refine⟨?_,?_,?_,?_,?_,?_,?_,?_,?_,?_,?_,?_,?_,?_,?_,?_,?_,?_,?_,?_,?_,?_,?_,trivial⟩
      ·refine .a 1 ?_;exact .q 10
      ·refine .a 1 ?_;exact .q 11
      ·refine .a 1 ?_;exact .q 12
      ·refine .a 1 ?_;exact .q 13
      ·refine .a 1 ?_;exact .q 14
      ·refine .wK [12,14] ?_;refine .callG 2 true 12 [(Ak t2.1),(AB (0:Int)),(AN (ByteArray.mk #[105,102]))] (AB t7) 15 rfl (by decide) RX rfl rfl (bD (decide_eq_true c6)) rfl rfl ⟨rfl,rfl,rfl,rfl,rfl,rfl,trivial⟩ (E1 et7) ?_;exact .q 15
      ·refine .wK [12,13,15] ?_;refine .callG 2 true 12 [(Ak t2.1),(AB t7)] (AB t8) 16 rfl (by decide) Nv rfl rfl (bD (decide_eq_true c6)) rfl rfl ⟨rfl,rfl,rfl,rfl,trivial⟩ (DA et8) ?_;exact .q 16
      ·refine .a 1 ?_;exact .q 17
      ·refine .a 1 ?_;exact .q 18
      ·refine .a 1 ?_;exact .q 19
      ·refine .a 1 ?_;exact .q 20
      ·refine .a 1 ?_;exact .q 21
      ·refine .wK [19,21] ?_;refine .callG 9 true 19 [(Ak t2.1),(AB (0:Int)),(AN (ByteArray.mk #[105,102,115]))] (AB t10) 22 rfl (by decide) RX rfl rfl (bD (decide_eq_true c9)) rfl rfl ⟨rfl,rfl,rfl,rfl,rfl,rfl,trivial⟩ (E1 et10) ?_;exact .q 22
      ·refine .wK [19,20,22] ?_;refine .callG 9 true 19 [(Ak t2.1),(AB t10)] (AB t11) 23 rfl (by decide) Nv rfl rfl (bD (decide_eq_true c9)) rfl rfl ⟨rfl,rfl,rfl,rfl,trivial⟩ (DA et11) ?_;exact .q 23
      ·refine .a 1 ?_;exact .q 24
      ·refine .a 1 ?_;exact .q 25
      ·refine .a 1 ?_;exact .q 26
      ·refine .a 1 ?_;exact .q 27
      ·refine .wK [26,27] ?_;refine .callG 16 true 26 [(Ak t2.1),(AB (2:Int))] (.fz 1 (t13.map AB)) 28 rfl (by decide) cL rfl rfl (bD (decide_eq_true c12)) rfl rfl ⟨rfl,rfl,rfl,rfl,trivial⟩ (Sh et13) ?_;exact .q 28
      ·refine .a 1 ?_;exact .q 29
      ·refine .a 1 ?_;exact .q 30
      ·refine .a 1 ?_;exact .q 31
      refine .a 1 ?_;exact .q 0
     cases q5;exact⟨rfl,rfl,rfl⟩
    refine .regAny (by rfl) (by decide+kernel) [(AB t2.2),(AD (decide (t2.2=(0:Int)))),(AD (decide (t2.2=(0:Int)))),(Ak t2.1),(Ak t2.1),(AB t7),(AB t8),(AD (decide (t8=(0:Int)))),(AD (decide (t8=(0:Int)))),(AD (decide (t8=(0:Int)))),(Ak t2.1),(Ak t2.1),(AB t10),(AB t11),(AD (decide (t11=(1:Int)))),(AD (decide (t11=(1:Int)))),(AD (decide (t11=(1:Int)))),(.fl undef),(.fl undef),(.fl undef),(.fl undef),(AD false),(AD false)] [(1,(.ptr n3 0)),(2,(AB t2.2))] ⟨rfl,rfl,trivial⟩ rfl ?_ [(0,(AD false))] [] ⟨rfl,trivial⟩ (.nil _) ?_
    ·refine⟨?_,?_,?_,?_,?_,?_,?_,?_,?_,?_,?_,?_,?_,?_,?_,?_,?_,?_,?_,?_,?_,?_,?_,trivial⟩
     ·refine .a 1 ?_;exact .q 10
     ·refine .a 1 ?_;exact .q 11
     ·refine .a 1 ?_;exact .q 12
     ·refine .a 1 ?_;exact .q 13
     ·refine .a 1 ?_;exact .q 14
     ·refine .wK [12,14] ?_;refine .callG 2 true 12 [(Ak t2.1),(AB (0:Int)),(AN (ByteArray.mk #[105,102]))] (AB t7) 15 rfl (by decide) RX rfl rfl (bD (decide_eq_true c6)) rfl rfl ⟨rfl,rfl,rfl,rfl,rfl,rfl,trivial⟩ (E1 et7) ?_;exact .q 15
     ·refine .wK [12,13,15] ?_;refine .callG 2 true 12 [(Ak t2.1),(AB t7)] (AB t8) 16 rfl (by decide) Nv rfl rfl (bD (decide_eq_true c6)) rfl rfl ⟨rfl,rfl,rfl,rfl,trivial⟩ (DA et8) ?_;exact .q 16
     ·refine .a 1 ?_;exact .q 17
     ·refine .a 1 ?_;exact .q 18
     ·refine .a 1 ?_;exact .q 19
     ·refine .a 1 ?_;exact .q 20
     ·refine .a 1 ?_;exact .q 21
     ·refine .wK [19,21] ?_;refine .callG 9 true 19 [(Ak t2.1),(AB (0:Int)),(AN (ByteArray.mk #[105,102,115]))] (AB t10) 22 rfl (by decide) RX rfl rfl (bD (decide_eq_true c9)) rfl rfl ⟨rfl,rfl,rfl,rfl,rfl,rfl,trivial⟩ (E1 et10) ?_;exact .q 22
     ·refine .wK [19,20,22] ?_;refine .callG 9 true 19 [(Ak t2.1),(AB t10)] (AB t11) 23 rfl (by decide) Nv rfl rfl (bD (decide_eq_true c9)) rfl rfl ⟨rfl,rfl,rfl,rfl,trivial⟩ (DA et11) ?_;exact .q 23
     ·refine .a 1 ?_;exact .q 24
     ·refine .a 1 ?_;exact .q 25
     ·refine .a 1 ?_;exact .q 26
     ·refine .a 1 ?_;exact .q 27
     ·refine .a 1 ?_;exact .q 28
     ·refine .a 1 ?_;exact .q 29
     ·refine .a 1 ?_;exact .q 30
     ·refine .a 1 ?_;exact .q 31
     refine .a 1 ?_;exact .q 0
    cases q5;exact⟨rfl,rfl,rfl⟩
   refine .regAny (by rfl) (by decide+kernel) [(AB t2.2),(AD (decide (t2.2=(0:Int)))),(AD (decide (t2.2=(0:Int)))),(Ak t2.1),(Ak t2.1),(AB t7),(AB t8),(AD (decide (t8=(0:Int)))),(AD (decide (t8=(0:Int)))),(AD (decide (t8=(0:Int)))),(.fl undef),(.fl undef),(.fl undef),(.fl undef),(.fl undef),(AD false),(AD false),(.fl undef),(.fl undef),(.fl undef),(.fl undef),(AD false),(AD false)] [(1,(.ptr n3 0)),(2,(AB t2.2))] ⟨rfl,rfl,trivial⟩ rfl ?_ [(0,(AD false))] [] ⟨rfl,trivial⟩ (.nil _) ?_
   ·refine⟨?_,?_,?_,?_,?_,?_,?_,?_,?_,?_,?_,?_,?_,?_,?_,?_,?_,?_,?_,?_,?_,?_,?_,trivial⟩
    ·refine .a 1 ?_;exact .q 10
    ·refine .a 1 ?_;exact .q 11
    ·refine .a 1 ?_;exact .q 12
    ·refine .a 1 ?_;exact .q 13
    ·refine .a 1 ?_;exact .q 14
    ·refine .wK [12,14] ?_;refine .callG 2 true 12 [(Ak t2.1),(AB (0:Int)),(AN (ByteArray.mk #[105,102]))] (AB t7) 15 rfl (by decide) RX rfl rfl (bD (decide_eq_true c6)) rfl rfl ⟨rfl,rfl,rfl,rfl,rfl,rfl,trivial⟩ (E1 et7) ?_;exact .q 15
    ·refine .wK [12,13,15] ?_;refine .callG 2 true 12 [(Ak t2.1),(AB t7)] (AB t8) 16 rfl (by decide) Nv rfl rfl (bD (decide_eq_true c6)) rfl rfl ⟨rfl,rfl,rfl,rfl,trivial⟩ (DA et8) ?_;exact .q 16
    ·refine .a 1 ?_;exact .q 17
    ·refine .a 1 ?_;exact .q 18
    ·refine .a 1 ?_;exact .q 19
    ·refine .a 1 ?_;exact .q 20
    ·refine .a 1 ?_;exact .q 21
    ·refine .a 1 ?_;exact .q 22
    ·refine .a 1 ?_;exact .q 23
    ·refine .a 1 ?_;exact .q 24
    ·refine .a 1 ?_;exact .q 25
    ·refine .a 1 ?_;exact .q 26
    ·refine .a 1 ?_;exact .q 27
    ·refine .a 1 ?_;exact .q 28
    ·refine .a 1 ?_;exact .q 29
    ·refine .a 1 ?_;exact .q 30
    ·refine .a 1 ?_;exact .q 31
    refine .a 1 ?_;exact .q 0
   cases q5;exact⟨rfl,rfl,rfl⟩
  refine .regAny (by rfl) (by decide+kernel) [(AB t2.2),(AD (decide (t2.2=(0:Int)))),(AD (decide (t2.2=(0:Int)))),(.fl undef),(.fl undef),(.fl undef),(.fl undef),(.fl undef),(AD false),(AD false),(.fl undef),(.fl undef),(.fl undef),(.fl undef),(.fl undef),(AD false),(AD false),(.fl undef),(.fl undef),(.fl undef),(.fl undef),(AD false),(AD false)] [(1,(.ptr n3 0)),(2,(AB t2.2))] ⟨rfl,rfl,trivial⟩ rfl ?_ [(0,(AD false))] [] ⟨rfl,trivial⟩ (.nil _) ?_
  ·refine⟨?_,?_,?_,?_,?_,?_,?_,?_,?_,?_,?_,?_,?_,?_,?_,?_,?_,?_,?_,?_,?_,?_,?_,trivial⟩
   ·refine .a 1 ?_;exact .q 10
   ·refine .a 1 ?_;exact .q 11
   ·refine .a 1 ?_;exact .q 12
   ·refine .a 1 ?_;exact .q 13
   ·refine .a 1 ?_;exact .q 14
   ·refine .a 1 ?_;exact .q 15
   ·refine .a 1 ?_;exact .q 16
   ·refine .a 1 ?_;exact .q 17
   ·refine .a 1 ?_;exact .q 18
   ·refine .a 1 ?_;exact .q 19
   ·refine .a 1 ?_;exact .q 20
   ·refine .a 1 ?_;exact .q 21
   ·refine .a 1 ?_;exact .q 22
   ·refine .a 1 ?_;exact .q 23
   ·refine .a 1 ?_;exact .q 24
   ·refine .a 1 ?_;exact .q 25
   ·refine .a 1 ?_;exact .q 26
   ·refine .a 1 ?_;exact .q 27
   ·refine .a 1 ?_;exact .q 28
   ·refine .a 1 ?_;exact .q 29
   ·refine .a 1 ?_;exact .q 30
   ·refine .a 1 ?_;exact .q 31
   refine .a 1 ?_;exact .q 0
  cases q5;exact⟨rfl,rfl,rfl⟩
 refine .rK [0] ?_;have hr:=Option.some.inj h;subst hr;exact⟨[(AD b4)],⟨rfl,rfl,trivial⟩,rfl⟩
def Ok (k:Nat):Option Bool:=
 some (true)
def Ef (k:Nat) (p0:(List CN)):Nat→Int→Option Bool
 | 0,_=>none
 | j+1,x3=>
   if x3<(p0.length:Int)then Option.bind (α:=Bool) (if 0≤x3∧x3<(p0.length:Int)then if(40:Int)<(((AA p0 x3).f2).size:Int)then some (true)
   else if 0≤x3∧x3<(p0.length:Int)then some (decide ((100:Int)<(((AA p0 x3).f0).size:Int)))
   else none
   else none) fun b7=>
   if b7=true then some (false)
   else(Ef k p0 j) (AG (x3+(1:Int)))
   else Ok k
def Xx (k:Nat) (p0:(List CN)):Option Bool:=
 if(20:Int)<(p0.length:Int)then some (false)
 else Ef k p0 k (0:Int)
theorem UA {k:Nat} {p0:(List CN)} {r:Bool} (h:Xx k p0=some r):AY Tryz.prog 11 [(.fz 3 (p0.map Es))] (AD r):=by
 rw[Xx.eq_1]at h;refine AY.intro (res:=[.tmp 2]) Tryz.func11 rfl rfl rfl (Nat.le_of_ble_eq_true rfl) ?_;refine .a 11 ?_;rcases oi h with⟨c2,h⟩|⟨c2,h⟩
 ·refine .a 4 ?_;refine .nK [2] ?_;refine .rK [2] ?_;have hr:=Option.some.inj h;subst hr;exact⟨[(AD false)],⟨rfl,rfl,trivial⟩,rfl⟩
 refine .a 1 ?_;refine .sK [0] ?_;refine .seq_mid (fun ρ H=>ρ=[]∧H=[]∧Ok k=some r) ?_ ?_
 ·refine .a 5 ?_;refine .wK [0,3] ?_;refine .loop (fun kq ρ H=>∃ (x3:Int),ρ=[(0,(.fz 3 (p0.map Es))),(3,(AB x3))]∧H=[]∧Ef k p0 kq x3=some r) k ⟨(0:Int),rfl,rfl,h⟩ ?_;rintro kq5 _ _ ⟨x3,rfl,rfl,h⟩
  cases kq5 with
  | zero=>rw[Ef.eq_1]at h;cases h
  | succ kq5=>
  rw[Ef.eq_2]at h;generalize hrec4:Ef k p0 kq5=rec4 at h;refine .a 8 ?_;rcases oi h with⟨c6,h⟩|⟨c6,h⟩
  ·refine .a 5 ?_;obtain⟨b7,q8,h⟩:=ob h;refine .regM [(0,(.fz 3 (p0.map Es))),(3,(AB x3)),(28,(AD b7))] [] ?_ ?_
   ·refine .a 2 ?_;obtain⟨g9,q8⟩:=AC q8;refine .a 1 ?_;refine .c (.fldRp rfl rfl Tryz.underlying53 rfl X4 (.cast (.fldS (.fldS (.fld0 .here))) rfl)) ?_;refine .a 4 ?_;rcases oi q8 with⟨c10,q8⟩|⟨c10,q8⟩
    ·refine .a 8 ?_;cases q8;refine .nilE ⟨rfl,rfl⟩ ?_ ?_
     ·exact⟨rfl,rfl,rfl,trivial⟩
     exact(.refl _)
    refine .a 2 ?_;obtain⟨g11,q8⟩:=AC q8;refine .a 1 ?_;refine .cG rfl rfl (bD (decide_eq_false c10)) (.fldRp rfl rfl Tryz.underlying53 rfl X4 (.cast (.fld0 .here) rfl)) ?_;refine .a 4 ?_;cases q8;refine .nilE ⟨rfl,rfl⟩ ?_ ?_
    ·exact⟨rfl,rfl,rfl,trivial⟩
    exact(.refl _)
   rcases oi h with⟨c12,h⟩|⟨c12,h⟩
   ·refine .a 4 ?_;refine .nK [2] ?_;refine .rK [2] ?_;have hr:=Option.some.inj h;subst hr;exact⟨[(AD false)],⟨rfl,rfl,trivial⟩,rfl⟩
   refine .a 6 ?_;refine .nK [0,3] ?_;exact⟨kq5,Nat.lt_succ_self _,(AG (x3+(1:Int))),rfl,rfl,by rw[hrec4];exact h⟩
  refine .a 1 ?_;refine .eK [] ?_;exact⟨rfl,rfl,h⟩
 rintro _ _ ⟨rfl,rfl,h⟩;rw[Ok.eq_1]at h;refine .a 3 ?_;refine .nK [2] ?_;refine .rK [2] ?_;have hr:=Option.some.inj h;subst hr;exact⟨[(AD true)],⟨rfl,rfl,trivial⟩,rfl⟩
def Ll (k:Nat):Option Bool:=
 some (false)
def GP (k:Nat) (p0:ByteArray) (p1:Int):Nat→Int→Option Bool
 | 0,_=>none
 | j+1,x3=>
   if x3<(p0.size:Int)then if 0≤x3∧x3<(p0.size:Int)then if(AF p0 x3)=p1 then some (true)
   else(GP k p0 p1 j) (AG (x3+(1:Int)))
   else none
   else Ll k
def Rg (k:Nat) (p0:ByteArray) (p1:Int):Option Bool:=
 GP k p0 p1 k (0:Int)
theorem GZ {k:Nat} {p0:ByteArray} {p1:Int} {r:Bool} (h:Rg k p0 p1=some r):AY Tryz.prog 110 [(AN p0),(AK p1)] (AD r):=by
 rw[Rg.eq_1]at h;refine AY.intro (res:=[.tmp 4]) Tryz.func110 rfl rfl rfl (Nat.le_of_ble_eq_true rfl) ?_;refine .a 3 ?_;refine .nK [0,1] ?_;refine .seq_mid (fun ρ H=>ρ=[]∧H=[]∧Ll k=some r) ?_ ?_
 ·refine .a 5 ?_;refine .wK [0,1,5] ?_;refine .loop (fun kq ρ H=>∃ (x3:Int),ρ=[(0,(AN p0)),(1,(AK p1)),(5,(AB x3))]∧H=[]∧GP k p0 p1 kq x3=some r) k ⟨(0:Int),rfl,rfl,h⟩ ?_;rintro kq5 _ _ ⟨x3,rfl,rfl,h⟩
  cases kq5 with
  | zero=>rw[GP.eq_1]at h;cases h
  | succ kq5=>
  rw[GP.eq_2]at h;generalize hrec4:GP k p0 p1 kq5=rec4 at h;refine .a 8 ?_;rcases oi h with⟨c6,h⟩|⟨c6,h⟩
  ·refine .a 8 ?_;obtain⟨g7,h⟩:=AC h;refine .a 4 ?_;rcases oi h with⟨c8,h⟩|⟨c8,h⟩
   ·refine .a 4 ?_;refine .nK [4] ?_;refine .rK [4] ?_;have hr:=Option.some.inj h;subst hr;exact⟨[(AD true)],⟨rfl,rfl,trivial⟩,rfl⟩
   refine .a 6 ?_;refine .nK [0,1,5] ?_;exact⟨kq5,Nat.lt_succ_self _,(AG (x3+(1:Int))),rfl,rfl,by rw[hrec4];exact h⟩
  refine .a 1 ?_;refine .eK [] ?_;exact⟨rfl,rfl,h⟩
 rintro _ _ ⟨rfl,rfl,h⟩;rw[Ll.eq_1]at h;refine .a 3 ?_;refine .nK [4] ?_;refine .rK [4] ?_;have hr:=Option.some.inj h;subst hr;exact⟨[(AD false)],⟨rfl,rfl,trivial⟩,rfl⟩
def Te (k:Nat) (p0:Int):Option Bool:=
 (Rg k (ByteArray.mk #[48,49,50,51,52,53,54,55,56,57,97,98,99,100,101,102,103,104,105,106,107,108,109,110,111,112,113,114,115,116,117,118,119,120,121,122,65,66,67,68,69,70,71,72,73,74,75,76,77,78,79,80,81,82,83,84,85,86,87,88,89,90]) p0).bind fun t2=>
 some (t2)
theorem LD {k:Nat} {p0:Int} {r:Bool} (h:Te k p0=some r):AY Tryz.prog 111 [(AK p0)] (AD r):=by
 rw[Te.eq_1]at h;refine AY.intro (res:=[.tmp 2]) Tryz.func111 rfl rfl rfl (Nat.le_of_ble_eq_true rfl) ?_;refine .a 7 ?_;obtain⟨t2,et2,h⟩:=ob h;refine .callS [(AN (ByteArray.mk #[48,49,50,51,52,53,54,55,56,57,97,98,99,100,101,102,103,104,105,106,107,108,109,110,111,112,113,114,115,116,117,118,119,120,121,122,65,66,67,68,69,70,71,72,73,74,75,76,77,78,79,80,81,82,83,84,85,86,87,88,89,90])),(AK p0)] (AD t2) 4 rfl (by decide) Q7 rfl rfl rfl ⟨rfl,rfl,rfl,rfl,trivial⟩ (GZ et2) ?_;refine .a 1 ?_;refine .nK [2] ?_;refine .rK [2] ?_;have hr:=Option.some.inj h;subst hr;exact⟨[(AD t2)],⟨rfl,rfl,trivial⟩,rfl⟩
def Yl (k:Nat) (p0:Int):Option Int:=
 (Rg k (ByteArray.mk #[32,9,10,13]) p0).bind fun t2=>
 if t2=true then some ((1:Int))
 else(Rg k (ByteArray.mk #[48,49,50,51,52,53,54,55,56,57]) p0).bind fun t4=>
 if t4=true then some ((2:Int))
 else Option.bind (α:=Bool) ((Te k p0).bind fun t8=>
 if t8=true then some (true)
 else some (decide (p0=(95:Int)))) fun b6=>
 if b6=true then some ((3:Int))
 else Option.bind (α:=Bool) (if(32:Int)<p0 then some (decide (p0<(127:Int)))
 else some (false)) fun b11=>
 if b11=true then some ((4:Int))
 else some ((0:Int))
theorem US {k:Nat} {p0:Int} {r:Int} (h:Yl k p0=some r):AY Tryz.prog 83 [(AK p0)] (AB r):=by
 rw[Yl.eq_1]at h;refine AY.intro (res:=[.tmp 2]) Tryz.func83 rfl rfl rfl (Nat.le_of_ble_eq_true rfl) ?_;refine .a 9 ?_;obtain⟨t2,et2,h⟩:=ob h;refine .callS [(AN (ByteArray.mk #[32,9,10,13])),(AK p0)] (AD t2) 5 rfl (by decide) Q7 rfl rfl rfl ⟨rfl,rfl,rfl,rfl,trivial⟩ (GZ et2) ?_;refine .a 2 ?_;rcases oi h with⟨c3,h⟩|⟨c3,h⟩
 ·refine .a 4 ?_;refine .nK [2] ?_;refine .rK [2] ?_;cases h;exact⟨[(AB (1:Int))],⟨rfl,rfl,trivial⟩,rfl⟩
 refine .a 4 ?_;obtain⟨t4,et4,h⟩:=ob h;refine .callS [(AN (ByteArray.mk #[48,49,50,51,52,53,54,55,56,57])),(AK p0)] (AD t4) 8 rfl (by decide) Q7 rfl rfl rfl ⟨rfl,rfl,rfl,rfl,trivial⟩ (GZ et4) ?_;refine .a 2 ?_;rcases oi h with⟨c5,h⟩|⟨c5,h⟩
 ·refine .a 4 ?_;refine .nK [2] ?_;refine .rK [2] ?_;cases h;exact⟨[(AB (2:Int))],⟨rfl,rfl,trivial⟩,rfl⟩
 refine .a 2 ?_;obtain⟨b6,q7,h⟩:=ob h;refine .regM [(0,(AK p0)),(9,(AD b6))] [] ?_ ?_
 ·refine .a 1 ?_;obtain⟨t8,et8,q7⟩:=ob q7;refine .callS [(AK p0)] (AD t8) 11 rfl (by decide) Wf rfl rfl rfl ⟨rfl,rfl,trivial⟩ (LD et8) ?_;refine .a 1 ?_;rcases oi q7 with⟨c9,q7⟩|⟨c9,q7⟩
  ·refine .a 4 ?_;cases q7;refine .nilE ⟨rfl,rfl⟩ ?_ ?_
   ·exact⟨rfl,rfl,trivial⟩
   exact(.refl _)
  refine .a 4 ?_;cases q7;refine .nilE ⟨rfl,rfl⟩ ?_ ?_
  ·exact⟨rfl,rfl,trivial⟩
  exact(.refl _)
 rcases oi h with⟨c10,h⟩|⟨c10,h⟩
 ·refine .a 4 ?_;refine .nK [2] ?_;refine .rK [2] ?_;cases h;exact⟨[(AB (3:Int))],⟨rfl,rfl,trivial⟩,rfl⟩
 refine .a 2 ?_;obtain⟨b11,q12,h⟩:=ob h;refine .regM [(16,(AD b11))] [] ?_ ?_
 ·refine .a 3 ?_;rcases oi q12 with⟨c13,q12⟩|⟨c13,q12⟩
  ·refine .a 4 ?_;cases q12;refine .nilE ⟨rfl,rfl⟩ ?_ ?_
   ·exact⟨rfl,trivial⟩
   exact(.refl _)
  refine .a 4 ?_;cases q12;refine .nilE ⟨rfl,rfl⟩ ?_ ?_
  ·exact⟨rfl,trivial⟩
  exact(.refl _)
 rcases oi h with⟨c14,h⟩|⟨c14,h⟩
 ·refine .a 4 ?_;refine .nK [2] ?_;refine .rK [2] ?_;cases h;exact⟨[(AB (4:Int))],⟨rfl,rfl,trivial⟩,rfl⟩
 refine .a 5 ?_;refine .nK [2] ?_;refine .rK [2] ?_;cases h;exact⟨[(AB (0:Int))],⟨rfl,rfl,trivial⟩,rfl⟩
end Go.Avl.T8
