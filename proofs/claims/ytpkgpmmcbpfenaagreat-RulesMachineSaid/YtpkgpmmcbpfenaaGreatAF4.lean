/- Parts: T8f39, T8f107, T8f79, T8f122, T8f109, T8f108, T8f80, T8f50, T8f22, T8f38, T8f95, T8f96, T8f72. -/
import Derived.Test.YtpkgpmmcbpfenaaGreatAF1
import Derived.Test.YtpkgpmmcbpfenaaGreatAF3
import Derived.Test.YtpkgpmmcbpfenaaGreatAF2
namespace Go.Avl.T8
open Go Go.RowKit Go.Proofs Go.Avl
set_option linter.unusedVariables false
set_option maxRecDepth 100000
set_option maxHeartbeats 4000000
set_option linter.unusedSimpArgs false
attribute [local irreducible] AW AO AQ AY Aq AH
def O3 (k:Nat) (x26:Int) (x27:(List AR)) (x28:Int) (x29:Int) (x30:(List Int)) (x31:(List Int)) (x33:(List (ByteArray×Int))) (x35:(List (List Bool))) (x36:(Vector Int 256)) (x38:(List (List Int))) (x40:(List Int)):Option (AI×Int):=
 some ((AI.mk x36 x38 x40),(0:Int))
def Mz (k:Nat) (rec57:(Int→(List AR)→Int→Int→(List Int)→(List Int)→(List (ByteArray×Int))→(List (List Bool))→(Vector Int 256)→(List (List Int))→(List Int)→Int→Option (AI×Int))) (x56:Int) (x60:Int) (x61:(List AR)) (x62:Int) (x63:Int) (x64:(List Int)) (x65:(List Int)) (x67:(List (ByteArray×Int))) (x69:(List (List Bool))) (x70:(Vector Int 256)) (x72:(List (List Int))) (x74:(List Int)):Option (AI×Int):=
 rec57 x60 x61 x62 x63 x64 x65 x67 x69 x70 x72 x74 (AG (x56+(1:Int)))
def Mh (k:Nat) (rec57:(Int→(List AR)→Int→Int→(List Int)→(List Int)→(List (ByteArray×Int))→(List (List Bool))→(Vector Int 256)→(List (List Int))→(List Int)→Int→Option (AI×Int))) (x56:Int) (x76:Int) (x77:(List AR)) (x78:Int) (x79:Int) (x80:(List Int)) (x81:(List Int)) (x83:(List (ByteArray×Int))) (x85:(List (List Bool))) (x86:(Vector Int 256)) (x88:(List (List Int))) (x90:(List Int)) (x92:(List Int)):Option (AI×Int):=
 if(x88++([x92]:List (List Int))).length*24≤140737488355328 then Mz k rec57 x56 x76 x77 x78 x79 x80 x81 x83 x85 x86 (x88++([x92]:List (List Int))) x90
 else none
def FH (k:Nat) (rec57:(Int→(List AR)→Int→Int→(List Int)→(List Int)→(List (ByteArray×Int))→(List (List Bool))→(Vector Int 256)→(List (List Int))→(List Int)→Int→Option (AI×Int))) (p0:Ar) (x46:(List Int)) (x56:Int):Nat→Int→(List AR)→Int→Int→(List Int)→(List Int)→(List (ByteArray×Int))→(List (List Bool))→(Vector Int 256)→(List (List Int))→(List Int)→(List Int)→Int→Option (AI×Int)
 | 0,_,_,_,_,_,_,_,_,_,_,_,_,_=>none
 | j+1,x96,x97,x98,x99,x100,x101,x103,x105,x106,x108,x110,x112,x113=>
   if x113<(x46.length:Int)then if 0≤x113∧x113<(x46.length:Int)then if 0≤x56∧x56<(x105.length:Int)then(aE k p0 (AA x105 x56) (AA x46 x113)).bind fun t119=>
   (Ys k p0 t119).bind fun t120=>
   (Xi k (DX.mk (Ar.mk x96 x97 x98 x99) x100 x101 x103 x105 (AI.mk x106 x108 x110)) t120).bind fun t121=>
   if(x112++([t121.1]:List Int)).length*8≤140737488355328 then(FH k rec57 p0 x46 x56 j) t121.2.f0.f0 t121.2.f0.f1 t121.2.f0.f2 t121.2.f0.f3 t121.2.f1 t121.2.f2 t121.2.f3 t121.2.f4 t121.2.f5.f0 t121.2.f5.f1 t121.2.f5.f2 (x112++([t121.1]:List Int)) (AG (x113+(1:Int)))
   else none
   else none
   else none
   else Mh k rec57 x56 x96 x97 x98 x99 x100 x101 x103 x105 x106 x108 x110 x112
def FS (k:Nat) (p0:Ar):Nat→Int→(List AR)→Int→Int→(List Int)→(List Int)→(List (ByteArray×Int))→(List (List Bool))→(Vector Int 256)→(List (List Int))→(List Int)→Int→Option (AI×Int)
 | 0,_,_,_,_,_,_,_,_,_,_,_,_=>none
 | j+1,x41,x42,x43,x44,x45,x46,x48,x50,x51,x53,x55,x56=>
   if x56<(x50.length:Int)then if(2000:Int)<(x50.length:Int)then some ((AI.mk (Vector.replicate 256 (0:Int)) ([]:List (List Int)) ([]:List Int)),(6:Int))
   else FH k (FS k p0 j) p0 x46 x56 k x41 x42 x43 x44 x45 x46 x48 x50 x51 x53 x55 ([]:List Int) (0:Int)
   else O3 k x41 x42 x43 x44 x45 x46 x48 x50 x51 x53 x55
def Jk (k:Nat) (p0:Ar) (p1:(List Int)) (t10:(Vector Int 256)) (x12:(List Int)):Option (AI×Int):=
 if 0≤p0.f0∧p0.f0*(1:Int)≤140737488355328∧p0.f0≤9223372036854775807 then if 0≤p0.f2∧p0.f2<((List.replicate p0.f0.toNat false).length:Int)then(Ys k p0 (AU (List.replicate p0.f0.toNat false) p0.f2 true)).bind fun t16=>
 (Xi k (DX.mk p0 p1 x12 ([]:List (ByteArray×Int)) ([]:List (List Bool)) (AI.mk t10 ([]:List (List Int)) ([]:List Int))) t16).bind fun t20=>
 FS k p0 k t20.2.f0.f0 t20.2.f0.f1 t20.2.f0.f2 t20.2.f0.f3 t20.2.f1 t20.2.f2 t20.2.f3 t20.2.f4 t20.2.f5.f0 t20.2.f5.f1 t20.2.f5.f2 (0:Int)
 else none
 else none
def Jx (k:Nat) (rec134:((List Int)→Int→Option (AI×Int))) (x133:Int) (x138:(List Int)):Option (AI×Int):=
 rec134 x138 (AG (x133+(1:Int)))
def EY (k:Nat) (p0:Ar) (p1:(List Int)) (t10:(Vector Int 256)):Nat→(List Int)→Int→Option (AI×Int)
 | 0,_,_=>none
 | j+1,x132,x133=>
   if x133<(256:Int)then if 0≤x133∧x133<(256:Int)then if(AG (AZ t10 x133))=(x132.length:Int)then if(x132++([(w8 x133)]:List Int)).length*1≤140737488355328 then Jx k (EY k p0 p1 t10 j) x133 (x132++([(w8 x133)]:List Int))
   else none
   else Jx k (EY k p0 p1 t10 j) x133 x132
   else none
   else Jk k p0 p1 t10 x132
def Xz (k:Nat) (p0:Ar) (p1:(List Int)):Option (AI×Int):=
 (Yn k p0).bind fun t5=>
 if(!t5)=true then some ((AI.mk (Vector.replicate 256 (0:Int)) ([]:List (List Int)) ([]:List Int)),(1:Int))
 else(au k p0).bind fun t9=>
 (ak k t9).bind fun t10=>
 EY k p0 p1 t10 k ([]:List Int) (0:Int)
theorem ON {k:Nat} {p0:Ar} {p1:(List Int)} {r:(AI×Int)} (h:Xz k p0 p1=some r):AY Tryz.prog 39 [(BK p0),(.fz 1 (p1.map AB))] (.tup [(Ak r.1),(AB r.2)]):=by
 rw[Xz.eq_1]at h;refine AY.intro (res:=[.cell 4 42,.tmp 5]) Tryz.func39 rfl rfl rfl (Nat.le_of_ble_eq_true rfl) ?_;refine .sr ?_;refine .box rfl 2 rfl (by decide) rfl rfl rfl fun n3=>?_;refine .alloc rfl 4 rfl (by decide) rfl CY BV fun n4=>?_;refine .a 1 ?_;refine .nS [1,2,4] [1,0] ?_;refine .a 4 ?_;obtain⟨t5,et5,h⟩:=ob h;refine .callS [(BK p0)] (AD t5) 14 rfl (by decide) Yy rfl rfl rfl ⟨rfl,rfl,trivial⟩ (Oh et5) ?_;refine .a 2 ?_;rcases oi h with⟨c6,h⟩|⟨c6,h⟩
 ·refine .a 3 ?_;refine .c (x:=(Z0 ((Vector.replicate 256 (0:Int)).toList.map AK))) (.build (qs:=[]) rfl trivial Tryz.underlying42 rfl CY BV .nil rfl) ?_;refine .store 1 rfl rfl rfl rfl rfl rfl (.cast .here rfl) rfl rfl BQ rfl ?_;refine .a 1 ?_;refine .nS [4,5] [1] ?_;refine .coeFld (X':=(Uz ((Vector.replicate 256 (0:Int)).toList.map AK) ([]:List (List Int)))) 0 rfl (.cast (.fldS (.fld0 .here)) rfl) rfl (Bc 1) rfl rfl ?_;refine .coeFld (X':=(PP ((Vector.replicate 256 (0:Int)).toList.map AK) ([]:List (List Int)) ([]:List Int))) 0 rfl (.cast (.fldS (.fldS (.fld0 .here))) rfl) rfl (Bc 1) rfl rfl ?_;refine .rK [4,5] ?_;cases h;exact⟨[(Ak (AI.mk (Vector.replicate 256 (0:Int)) ([]:List (List Int)) ([]:List Int))),(AB (1:Int))],⟨⟨_,0,rfl,rfl,E9,BQ⟩,rfl,rfl,trivial⟩,rfl⟩
 refine .a 6 ?_;refine .makeMap rfl 19 rfl (by decide) rfl fun n7=>?_;refine .c (x:=(.st [(4,(BK p0)),(1,(.fz 1 (p1.map AB))),(1,(.fl (.slice none 0 0))),(1,(.mp n7)),(1,(.fl (.slice none 0 0))),(258,(Z0 ((Vector.replicate 256 (0:Int)).toList.map AK)))])) (.build (qs:=[(0,(BK p0)),(1,(.fz 1 (p1.map AB))),(3,(.mp n7))]) rfl ⟨rfl,rfl,rfl,rfl,rfl,rfl,rfl,rfl,rfl,trivial⟩ Tryz.underlying132 rfl Zp X8 (.cons rfl rfl rfl rfl (.cast (.fld0 .here) rfl) (.cons rfl rfl rfl rfl (.cast (.fldS (.fld0 .here)) rfl) (.cons rfl rfl rfl rfl (.cast (.fldS (.fldS (.fldS (.fld0 .here)))) rfl) .nil))) rfl) ?_;refine .box rfl 21 rfl (by decide) rfl rfl rfl fun n8=>?_;refine .a 1 ?_;refine .nS [2,4,6] [2,3,0,1] ?_;refine .a 4 ?_;obtain⟨t9,et9,h⟩:=ob h;refine .callS [(BK p0)] (.fz 4 (t9.map C7)) 24 rfl (by decide) cQ rfl rfl rfl ⟨rfl,rfl,trivial⟩ (Uu et9) ?_;obtain⟨t10,et10,h⟩:=ob h;refine .callS [(.fz 4 (t9.map C7))] (.ar 1 (t10.toList.map AK)) 25 rfl (by decide) ca rfl rfl rfl ⟨rfl,rfl,trivial⟩ (TZ et10) ?_;refine .a 3 ?_;refine .store 2 rfl rfl rfl rfl rfl rfl (.cast (.fldS (.fldS (.fldS (.fldS (.fldS (.fld0 (.fld0 .here))))))) rfl) rfl (by simp[AV.size]) (by rw[UP];simp[AV.size]) rfl ?_;refine .nK [2,4,6] ?_
 refine .seq_mid (fun ρ H=>∃ (n11:Nat) (x12:(List Int)),ρ=[(2,(.ptr n3 0)),(4,(.ptr n4 0)),(6,(.ptr n8 0))]∧H=[(n3,(.mem (BK p0))),(BA n4 ((Vector.replicate 256 (0:Int)).toList.map AK)),(n8,(.mem (.st [(4,(BK p0)),(1,(.fz 1 (p1.map AB))),(1,(.own n11 0 x12.length)),(1,(.mp n7)),(1,(.fl (.slice none 0 0))),(258,(Z0 (t10.toList.map AK)))]))),(Uy n11 x12),(n7,(.map (Am Value.string AB ([]:List (ByteArray×Int)))))]∧Jk k p0 p1 t10 x12=some r) ?_ ?_
 ·refine .a 5 ?_;refine .nilOwnFld 2 1 (fun n144=>(.st [(4,(BK p0)),(1,(.fz 1 (p1.map AB))),(1,(.own n144 0 0)),(1,(.mp n7)),(1,(.fl (.slice none 0 0))),(258,(Z0 (t10.toList.map AK)))])) rfl (fun _=>(.cast (.fldS (.fldS (.fld0 .here))) rfl)) (fun _=>rfl) (fun _=>rfl) fun n144=>?_;refine .wH [2,4,6,29] (H':=[(n3,(.mem (BK p0))),(BA n4 ((Vector.replicate 256 (0:Int)).toList.map AK)),(n8,(.mem (.st [(4,(BK p0)),(1,(.fz 1 (p1.map AB))),(1,(BL n144 ([]:List Int).length)),(1,(.mp n7)),(1,(.fl (.slice none 0 0))),(258,(Z0 (t10.toList.map AK)))]))),(Uy n144 ([]:List Int)),(n7,(.map (Am Value.string AB ([]:List (ByteArray×Int)))))]) (.cons 1 rfl (.cons 1 rfl (.cons 1 rfl (.cons 0 rfl (.cons 0 rfl (.nil _)))))) ?_;refine .loop (fun kq ρ H=>∃ (n131:Nat) (x132:(List Int)) (x133:Int),ρ=[(2,(.ptr n3 0)),(4,(.ptr n4 0)),(6,(.ptr n8 0)),(29,(AB x133))]∧H=[(n3,(.mem (BK p0))),(BA n4 ((Vector.replicate 256 (0:Int)).toList.map AK)),(n8,(.mem (.st [(4,(BK p0)),(1,(.fz 1 (p1.map AB))),(1,(BL n131 x132.length)),(1,(.mp n7)),(1,(.fl (.slice none 0 0))),(258,(Z0 (t10.toList.map AK)))]))),(Uy n131 x132),(n7,(.map (Am Value.string AB ([]:List (ByteArray×Int)))))]∧EY k p0 p1 t10 kq x132 x133=some r) k ⟨n144,([]:List Int),(0:Int),rfl,rfl,h⟩ ?_;rintro kq135 _ _ ⟨n131,x132,x133,rfl,rfl,h⟩
  cases kq135 with
  | zero=>rw[EY.eq_1]at h;cases h
  | succ kq135=>
  rw[EY.eq_2]at h;generalize hrec134:EY k p0 p1 t10 kq135=rec134 at h;refine .a 5 ?_;rcases oi h with⟨c136,h⟩|⟨c136,h⟩
  ·refine .a 1 ?_;refine .sK [2,4,6,29] ?_;refine .seq_mid (fun ρ H=>∃ (n137:Nat) (x138:(List Int)),ρ=[(2,(.ptr n3 0)),(4,(.ptr n4 0)),(6,(.ptr n8 0)),(29,(AB x133))]∧H=[(n3,(.mem (BK p0))),(BA n4 ((Vector.replicate 256 (0:Int)).toList.map AK)),(n8,(.mem (.st [(4,(BK p0)),(1,(.fz 1 (p1.map AB))),(1,(BL n137 x138.length)),(1,(.mp n7)),(1,(.fl (.slice none 0 0))),(258,(Z0 (t10.toList.map AK)))]))),(Uy n137 x138),(n7,(.map (Am Value.string AB ([]:List (ByteArray×Int)))))]∧Jx k rec134 x133 x138=some r) ?_ ?_
   ·refine .a 7 ?_;refine .regQ (by rfl) (by decide+kernel) ?_;refine .a 5 ?_;obtain⟨g139,h⟩:=AC h;refine .c (.idxP rfl rfl rfl g139 Tryz.underlying38 Ew) ?_;refine .c (.load 2 rfl rfl rfl (.cast (.fldS (.fldS (.fldS (.fldS (.fldS (.fld0 (.fld0 (.vidx x133 g139.1 g139.2 .here)))))))) (by omega)) Ol Ew) ?_;refine .c (x:=AB (AG (AZ t10 x133))) (.conv rfl rfl Tryz.underlying5 Tryz.underlying3) ?_;refine .c (.move rfl rfl) ?_;refine .c (.nilCheck rfl rfl) ?_;refine .c (x:=.ptr n8 5) (.fldPtr rfl rfl Tryz.underlying132 rfl QK _ rfl) ?_;refine .c (.load 2 rfl rfl rfl (.cast (.fldS (.fldS (.fld0 .here))) rfl) WV QK) ?_;refine .c (.lenOwn rfl rfl Tryz.underlying130) ?_;refine .c (x:=AD (decide ((AG (AZ t10 x133))=(x132.length:Int)))) (.int rfl rfl rfl rfl) ?_;refine .nK [2,4,6,7,29,45] ?_;rcases oi h with⟨c140,h⟩|⟨c140,h⟩
    ·refine .a 9 ?_;refine .lit (Z:=(AK (0:Int))) (xs:=(([(w8 x133)]:List Int).map AK)) (qs:=[(0,(AK (w8 x133)))]) rfl 53 rfl (by decide) rfl ⟨rfl,rfl,rfl,trivial⟩ Tryz.underlying130 Ew Wv PL rfl (by decide) (An (z:=1) [(AK (w8 x133))] rfl ⟨⟨rfl,rfl⟩,trivial⟩) rfl fun n141=>?_;obtain⟨g143,h⟩:=AC h;refine .appendL (l:=x132) (m:=([(w8 x133)]:List Int)) 4 54 rfl (by decide) rfl rfl rfl rfl rfl (CS.ownL (f:=AK) (l:=([(w8 x133)]:List Int)) 0 rfl) Tryz.underlying130 Tryz.underlying130 Ew bm Wv rfl g143 (by decide) fun n142=>?_;refine .a 2 ?_;refine .store 3 rfl rfl rfl rfl rfl rfl (.cast (.fldS (.fldS (.fld0 .here))) rfl) rfl rfl QK rfl ?_;refine .nS [2,4,6,29] [1,2,3,4,5] ?_;exact⟨n142,(x132++([(w8 x133)]:List Int)),rfl,rfl,h⟩
    refine .a 1 ?_;refine .sK [2,4,6,29] ?_;exact⟨n131,x132,rfl,rfl,h⟩
   rintro _ _ ⟨n137,x138,rfl,rfl,h⟩;rw[Jx.eq_1]at h;refine .a 3 ?_;refine .nK [2,4,6,29] ?_;exact⟨kq135,Nat.lt_succ_self _,n137,x138,(AG (x133+(1:Int))),rfl,rfl,by rw[hrec134];exact h⟩
  refine .a 1 ?_;refine .eK [2,4,6] ?_;exact⟨n131,x132,rfl,rfl,h⟩
 rintro _ _ ⟨n11,x12,rfl,rfl,h⟩;rw[Jk.eq_1]at h;refine .a 4 ?_;obtain⟨g14,h⟩:=AC h;refine .makeL (f:=AD) false rfl 60 rfl (by decide) rfl rfl rfl Tryz.underlying95 Bw KI G3 D9 rfl g14 fun n13=>?_;refine .a 1 ?_;refine .nS [2,4,6,8] [1,2,3,4,5,0] ?_;refine .a 5 ?_;obtain⟨g15,h⟩:=AC h;refine .a 1 ?_;refine .store 5 rfl rfl rfl rfl rfl rfl (.cast (.lidx p0.f2 true g15.1 g15.2 .here) (by omega)) rfl rfl Bw rfl ?_;refine .coe 8 (y':=(BL n13 (AU (List.replicate p0.f0.toNat false) p0.f2 true).length)) rfl (fun _ _ h=>Ad h) ?_;refine .coe 61 (y':=(BL n13 (AU (List.replicate p0.f0.toNat false) p0.f2 true).length)) rfl (fun _ _ h=>Ad h) ?_;refine .a 6 ?_;obtain⟨t16,et16,h⟩:=ob h;refine .freezeS 5 [(8,(Ln (AU (List.replicate p0.f0.toNat false) p0.f2 true))),(67,(Ln (AU (List.replicate p0.f0.toNat false) p0.f2 true)))] rfl ⟨Aj rfl,Aj rfl,trivial⟩ ?_;refine .callS [(BK p0),(Ln (AU (List.replicate p0.f0.toNat false) p0.f2 true))] (.fz 1 (t16.map AD)) 68 rfl (by decide) aa rfl rfl rfl ⟨rfl,rfl,rfl,rfl,trivial⟩ (OV et16) ?_;obtain⟨t20,et20,h⟩:=ob h;refine .freezeFld (X':=(.st [(4,(BK p0)),(1,(.fz 1 (p1.map AB))),(1,(.fz 1 (x12.map AK))),(1,(.mp n7)),(1,(.fl (.slice none 0 0))),(258,(Z0 (t10.toList.map AK)))])) (els':=(x12.map AK)) 3 2 rfl rfl (.cast (.fldS (.fldS (.fld0 .here))) rfl) (by simp) (by rw[Be]) rfl rfl (by decide) ?_
 refine .nilOwnFld 2 1 (fun n17=>(.st [(4,(BK p0)),(1,(.fz 1 (p1.map AB))),(1,(.fz 1 (x12.map AK))),(1,(.mp n7)),(1,(.own n17 0 0)),(258,(Z0 (t10.toList.map AK)))])) rfl (fun _=>(.cast (.fldS (.fldS (.fldS (.fldS (.fld0 .here))))) rfl)) (fun _=>rfl) (fun _=>rfl) fun n17=>?_;refine .nilOwnFld 3 1 (fun n18=>(.st [(4,(BK p0)),(1,(.fz 1 (p1.map AB))),(1,(.fz 1 (x12.map AK))),(1,(.mp n7)),(1,(BL n17 ([]:List (List Bool)).length)),(258,(.st [(256,(.ar 1 (t10.toList.map AK))),(1,(.own n18 0 0)),(1,(.fl (.slice none 0 0)))]))])) rfl (fun _=>(.cast (.fldS (.fldS (.fldS (.fldS (.fldS (.fld0 (.fldS (.fld0 .here)))))))) rfl)) (fun _=>rfl) (fun _=>rfl) fun n18=>?_;refine .nilOwnFld 4 1 (fun n19=>(.st [(4,(BK p0)),(1,(.fz 1 (p1.map AB))),(1,(.fz 1 (x12.map AK))),(1,(.mp n7)),(1,(BL n17 ([]:List (List Bool)).length)),(258,(.st [(256,(.ar 1 (t10.toList.map AK))),(1,(BL n18 ([]:List (List Int)).length)),(1,(.own n19 0 0))]))])) rfl (fun _=>(.cast (.fldS (.fldS (.fldS (.fldS (.fldS (.fld0 (.fldS (.fldS (.fld0 .here))))))))) rfl)) (fun _=>rfl) (fun _=>rfl) fun n19=>?_
 refine .callH [(.ptr n8 0),(.fz 1 (t16.map AD))] [(Z2 n8 p0 p1 x12 n7 n17 ([]:List (List Bool)).length (t10.toList.map AK) n18 ([]:List (List Int)).length n19 ([]:List Int).length),(n7,(.map (Am Value.string AB ([]:List (ByteArray×Int))))),(C5 n17 ([]:List (List Bool))),(Z5 n18 ([]:List (List Int))),(n19,(Z3 ([]:List Int))),(n3,(.mem (BK p0))),(BA n4 ((Vector.replicate 256 (0:Int)).toList.map AK))] _ rfl rfl rfl 69 rfl (by decide) ZW ⟨rfl,rfl,rfl,rfl,trivial⟩ (.cons 5 rfl (.cons 5 rfl (.cons 2 rfl (.cons 1 rfl (.cons 0 rfl (.refl _)))))) (N5 et20) ?_;rintro _ _ ⟨n22,n23,n24,n25,rfl,hs21⟩;refine .wH [2,4,6,8,65,66,67,68,69] hs21 ?_;refine .nS [2,4,6] [5,6,0,1,2,3,4] ?_;refine .seq_mid (fun ρ H=>∃ (n32:Nat) (n34:Nat) (n37:Nat) (n39:Nat) (x26:Int) (x27:(List AR)) (x28:Int) (x29:Int) (x30:(List Int)) (x31:(List Int)) (x33:(List (ByteArray×Int))) (x35:(List (List Bool))) (x36:(Vector Int 256)) (x38:(List (List Int))) (x40:(List Int)),ρ=[(4,(.ptr n4 0)),(6,(.ptr n8 0))]∧H=[(BA n4 ((Vector.replicate 256 (0:Int)).toList.map AK)),(Z4 n8 x26 x27 x28 x29 x30 x31 n32 n34 x35.length (x36.toList.map AK) n37 x38.length n39 x40.length),(n32,(.map (Am Value.string AB x33))),(C5 n34 x35),(Z5 n37 x38),(n39,(Z3 x40))]∧O3 k x26 x27 x28 x29 x30 x31 x33 x35 x36 x38 x40=some r) ?_ ?_
 ·refine .a 5 ?_;refine .wK [2,4,6,9] ?_;refine .loop (fun kq ρ H=>∃ (n47:Nat) (n49:Nat) (n52:Nat) (n54:Nat) (x41:Int) (x42:(List AR)) (x43:Int) (x44:Int) (x45:(List Int)) (x46:(List Int)) (x48:(List (ByteArray×Int))) (x50:(List (List Bool))) (x51:(Vector Int 256)) (x53:(List (List Int))) (x55:(List Int)) (x56:Int),ρ=[(2,(.ptr n3 0)),(4,(.ptr n4 0)),(6,(.ptr n8 0)),(9,(AB x56))]∧H=[(n3,(.mem (BK p0))),(BA n4 ((Vector.replicate 256 (0:Int)).toList.map AK)),(Z4 n8 x41 x42 x43 x44 x45 x46 n47 n49 x50.length (x51.toList.map AK) n52 x53.length n54 x55.length),(n47,(.map (Am Value.string AB x48))),(C5 n49 x50),(Z5 n52 x53),(n54,(Z3 x55))]∧FS k p0 kq x41 x42 x43 x44 x45 x46 x48 x50 x51 x53 x55 x56=some r) k ⟨n22,n23,n24,n25,t20.2.f0.f0,t20.2.f0.f1,t20.2.f0.f2,t20.2.f0.f3,t20.2.f1,t20.2.f2,t20.2.f3,t20.2.f4,t20.2.f5.f0,t20.2.f5.f1,t20.2.f5.f2,(0:Int),rfl,rfl,h⟩ ?_;rintro kq58 _ _ ⟨n47,n49,n52,n54,x41,x42,x43,x44,x45,x46,x48,x50,x51,x53,x55,x56,rfl,rfl,h⟩
  cases kq58 with
  | zero=>rw[FS.eq_1]at h;cases h
  | succ kq58=>
  rw[FS.eq_2]at h;generalize hrec57:FS k p0 kq58=rec57 at h;refine .a 11 ?_;rcases oi h with⟨c59,h⟩|⟨c59,h⟩
  ·refine .a 1 ?_;refine .sK [2,4,6,9] ?_;refine .seq_mid (fun ρ H=>∃ (n66:Nat) (n68:Nat) (n71:Nat) (n73:Nat) (x60:Int) (x61:(List AR)) (x62:Int) (x63:Int) (x64:(List Int)) (x65:(List Int)) (x67:(List (ByteArray×Int))) (x69:(List (List Bool))) (x70:(Vector Int 256)) (x72:(List (List Int))) (x74:(List Int)),ρ=[(2,(.ptr n3 0)),(4,(.ptr n4 0)),(6,(.ptr n8 0)),(9,(AB x56))]∧H=[(n3,(.mem (BK p0))),(BA n4 ((Vector.replicate 256 (0:Int)).toList.map AK)),(Z4 n8 x60 x61 x62 x63 x64 x65 n66 n68 x69.length (x70.toList.map AK) n71 x72.length n73 x74.length),(n66,(.map (Am Value.string AB x67))),(C5 n68 x69),(Z5 n71 x72),(n73,(Z3 x74))]∧Mz k rec57 x56 x60 x61 x62 x63 x64 x65 x67 x69 x70 x72 x74=some r) ?_ ?_
   ·refine .a 11 ?_;rcases oi h with⟨c75,h⟩|⟨c75,h⟩
    ·refine .a 3 ?_;refine .c (x:=(Z0 ((Vector.replicate 256 (0:Int)).toList.map AK))) (.build (qs:=[]) rfl trivial Tryz.underlying42 rfl CY BV .nil rfl) ?_;refine .store 1 rfl rfl rfl rfl rfl rfl (.cast .here rfl) rfl rfl BQ rfl ?_;refine .a 1 ?_;refine .nS [4,5] [1] ?_;refine .coeFld (X':=(Uz ((Vector.replicate 256 (0:Int)).toList.map AK) ([]:List (List Int)))) 0 rfl (.cast (.fldS (.fld0 .here)) rfl) rfl (Bc 1) rfl rfl ?_;refine .coeFld (X':=(PP ((Vector.replicate 256 (0:Int)).toList.map AK) ([]:List (List Int)) ([]:List Int))) 0 rfl (.cast (.fldS (.fldS (.fld0 .here))) rfl) rfl (Bc 1) rfl rfl ?_;refine .rK [4,5] ?_;cases h;exact⟨[(Ak (AI.mk (Vector.replicate 256 (0:Int)) ([]:List (List Int)) ([]:List Int))),(AB (6:Int))],⟨⟨_,0,rfl,rfl,E9,BQ⟩,rfl,rfl,trivial⟩,rfl⟩
    refine .a 5 ?_;refine .nK [2,4,6,9,10] ?_;refine .seq_mid (fun ρ H=>∃ (n82:Nat) (n84:Nat) (n87:Nat) (n89:Nat) (n91:Nat) (x76:Int) (x77:(List AR)) (x78:Int) (x79:Int) (x80:(List Int)) (x81:(List Int)) (x83:(List (ByteArray×Int))) (x85:(List (List Bool))) (x86:(Vector Int 256)) (x88:(List (List Int))) (x90:(List Int)) (x92:(List Int)),ρ=[(2,(.ptr n3 0)),(4,(.ptr n4 0)),(6,(.ptr n8 0)),(9,(AB x56)),(10,(.own n91 0 x92.length))]∧H=[(n3,(.mem (BK p0))),(BA n4 ((Vector.replicate 256 (0:Int)).toList.map AK)),(Z4 n8 x76 x77 x78 x79 x80 x81 n82 n84 x85.length (x86.toList.map AK) n87 x88.length n89 x90.length),(n82,(.map (Am Value.string AB x83))),(C5 n84 x85),(Z5 n87 x88),(n89,(Z3 x90)),(n91,(Z3 x92))]∧Mh k rec57 x56 x76 x77 x78 x79 x80 x81 x83 x85 x86 x88 x90 x92=some r) ?_ ?_
    ·refine .a 10 ?_;refine .nilOwn 10 1 rfl fun n130=>?_;refine .wH [2,4,6,9,10,89,90,91] (H':=[(n3,(.mem (BK p0))),(BA n4 ((Vector.replicate 256 (0:Int)).toList.map AK)),(Z4 n8 x41 x42 x43 x44 x45 x46 n47 n49 x50.length (x51.toList.map AK) n52 x53.length n54 x55.length),(n47,(.map (Am Value.string AB x48))),(C5 n49 x50),(Z5 n52 x53),(n54,(Z3 x55)),(n130,(Z3 ([]:List Int)))]) (.cons 1 rfl (.cons 1 rfl (.cons 1 rfl (.cons 1 rfl (.cons 1 rfl (.cons 1 rfl (.cons 1 rfl (.cons 0 rfl (.nil _))))))))) ?_;refine .loop (fun kq ρ H=>∃ (n102:Nat) (n104:Nat) (n107:Nat) (n109:Nat) (n111:Nat) (x96:Int) (x97:(List AR)) (x98:Int) (x99:Int) (x100:(List Int)) (x101:(List Int)) (x103:(List (ByteArray×Int))) (x105:(List (List Bool))) (x106:(Vector Int 256)) (x108:(List (List Int))) (x110:(List Int)) (x112:(List Int)) (x113:Int),ρ=[(2,(.ptr n3 0)),(4,(.ptr n4 0)),(6,(.ptr n8 0)),(9,(AB x56)),(10,(BL n111 x112.length)),(89,(.fz 1 (x46.map AK))),(90,(AB (x46.length:Int))),(91,(AB x113))]∧H=[(n3,(.mem (BK p0))),(BA n4 ((Vector.replicate 256 (0:Int)).toList.map AK)),(Z4 n8 x96 x97 x98 x99 x100 x101 n102 n104 x105.length (x106.toList.map AK) n107 x108.length n109 x110.length),(n102,(.map (Am Value.string AB x103))),(C5 n104 x105),(Z5 n107 x108),(n109,(Z3 x110)),(n111,(Z3 x112))]∧FH k rec57 p0 x46 x56 kq x96 x97 x98 x99 x100 x101 x103 x105 x106 x108 x110 x112 x113=some r) k ⟨n47,n49,n52,n54,n130,x41,x42,x43,x44,x45,x46,x48,x50,x51,x53,x55,([]:List Int),(0:Int),rfl,rfl,h⟩ ?_
     rintro kq115 _ _ ⟨n102,n104,n107,n109,n111,x96,x97,x98,x99,x100,x101,x103,x105,x106,x108,x110,x112,x113,rfl,rfl,h⟩
     cases kq115 with
     | zero=>rw[FH.eq_1]at h;cases h
     | succ kq115=>
     rw[FH.eq_2]at h;generalize hrec114:FH k rec57 p0 x46 x56 kq115=rec114 at h;refine .a 5 ?_;rcases oi h with⟨c116,h⟩|⟨c116,h⟩
     ·refine .a 6 ?_;obtain⟨g117,h⟩:=AC h;refine .a 4 ?_;obtain⟨g118,h⟩:=AC h;obtain⟨t119,et119,h⟩:=ob h;obtain⟨t120,et120,h⟩:=ob h;obtain⟨t121,et121,h⟩:=ob h;obtain⟨g129,h⟩:=AC h
      refine .regEff (by rfl) (by decide+kernel) (fun (σ:Nat→Nat)=>([(BL n111 x112.length),(.ptr n8 0),(BK p0),(BK p0),(.ptr n8 0),(.ptr n8 0),(.ptr n8 7),(BL n104 x105.length),(AB x56),(.ptr n104 (x56.toNat*1+0)),(Ln (AA x105 x56)),(AK (AA x46 x113)),(Ln t119),(Ln t120),(AB t121.1),(Df ([t121.1]:List Int)),(BL (σ 16) (x112++([t121.1]:List Int)).length),(BL (σ 16) (x112++([t121.1]:List Int)).length)]:List AV)) (fun (L:Nat→Bool) (σ:Nat→Nat)=>((n3,(.mem (BK p0)))::(BA n4 ((Vector.replicate 256 (0:Int)).toList.map AK))::(bif L 14 then(bif L 16 then((Z2 n8 t121.2.f0 t121.2.f1 t121.2.f2 (σ 14) (σ 1014) t121.2.f4.length (t121.2.f5.f0.toList.map AK) (σ 2014) t121.2.f5.f1.length (σ 3014) t121.2.f5.f2.length)::((σ 14),(.map (Am Value.string AB t121.2.f3)))::((σ 1014),(.mem (.ar 1 (t121.2.f4.map G7))))::((σ 2014),(.mem (.ar 1 (t121.2.f5.f1.map Ce))))::((σ 3014),(Z3 t121.2.f5.f2))::((σ 16),(Z3 (x112++([t121.1]:List Int))))::[])else((Z2 n8 t121.2.f0 t121.2.f1 t121.2.f2 (σ 14) (σ 1014) t121.2.f4.length (t121.2.f5.f0.toList.map AK) (σ 2014) t121.2.f5.f1.length (σ 3014) t121.2.f5.f2.length)::((σ 14),(.map (Am Value.string AB t121.2.f3)))::((σ 1014),(.mem (.ar 1 (t121.2.f4.map G7))))::((σ 2014),(.mem (.ar 1 (t121.2.f5.f1.map Ce))))::((σ 3014),(Z3 t121.2.f5.f2))::(n111,(Z3 x112))::[]))else((Z4 n8 x96 x97 x98 x99 x100 x101 n102 n104 x105.length (x106.toList.map AK) n107 x108.length n109 x110.length)::(n102,(.map (Am Value.string AB x103)))::(C5 n104 x105)::(Z5 n107 x108)::(n109,(Z3 x110))::(n111,(Z3 x112))::[])):Aa)) [(2,(.ptr n3 0)),(4,(.ptr n4 0)),(6,(.ptr n8 0)),(9,(AB x56)),(10,(BL n111 x112.length)),(12,(AK (AA x46 x113))),(89,(.fz 1 (x46.map AK))),(90,(AB (x46.length:Int))),(91,(AB x113))] ⟨rfl,rfl,rfl,rfl,rfl,rfl,rfl,rfl,rfl,trivial⟩ (fun _=>rfl) (fun σ=>(.refl _)) ⟨?_,?_,?_,?_,?_,?_,?_,?_,?_,?_,?_,?_,?_,?_,?_,?_,?_,?_,trivial⟩ (fun σ=>[(2,(.ptr n3 0)),(4,(.ptr n4 0)),(6,(.ptr n8 0)),(9,(AB x56)),(10,(BL (σ 16) (x112++([t121.1]:List Int)).length)),(89,(.fz 1 (x46.map AK))),(90,(AB (x46.length:Int))),(91,(AB x113))]) (fun σ=>((n3,(.mem (BK p0)))::(BA n4 ((Vector.replicate 256 (0:Int)).toList.map AK))::(Z2 n8 t121.2.f0 t121.2.f1 t121.2.f2 (σ 14) (σ 1014) t121.2.f4.length (t121.2.f5.f0.toList.map AK) (σ 2014) t121.2.f5.f1.length (σ 3014) t121.2.f5.f2.length)::((σ 14),(.map (Am Value.string AB t121.2.f3)))::((σ 1014),(.mem (.ar 1 (t121.2.f4.map G7))))::((σ 2014),(.mem (.ar 1 (t121.2.f5.f1.map Ce))))::((σ 3014),(Z3 t121.2.f5.f2))::((σ 16),(Z3 (x112++([t121.1]:List Int))))::[])) (fun σ=>⟨rfl,rfl,rfl,rfl,rfl,rfl,rfl,rfl,trivial⟩) (fun σ=>.refl _) (fun σ=>?_)
      ·refine .calm (fun _ _=>rfl) fun L σ hc hi hd=>?_;have m16:L 16=false:=hc.neg (i:=0) (j:=16) rfl (by rfl) hi
       cases b14:L 14 with
       | true=>
         refine .heq (H':=((n3,(.mem (BK p0)))::(BA n4 ((Vector.replicate 256 (0:Int)).toList.map AK))::(Z2 n8 t121.2.f0 t121.2.f1 t121.2.f2 (σ 14) (σ 1014) t121.2.f4.length (t121.2.f5.f0.toList.map AK) (σ 2014) t121.2.f5.f1.length (σ 3014) t121.2.f5.f2.length)::((σ 14),(.map (Am Value.string AB t121.2.f3)))::((σ 1014),(.mem (.ar 1 (t121.2.f4.map G7))))::((σ 2014),(.mem (.ar 1 (t121.2.f5.f1.map Ce))))::((σ 3014),(Z3 t121.2.f5.f2))::(n111,(Z3 x112))::[])) (by first|rfl|simp only[b14,m16,cond_true,cond_false]) ?_;refine .a 1 ?_;exact .nE (d:=95) rfl ⟨⟨95,_,rfl,rfl,rfl⟩,.of_eq (by first|rfl|simp only[b14,m16,cond_true,cond_false]) (.refl _)⟩
       | false=>
         refine .heq (H':=((n3,(.mem (BK p0)))::(BA n4 ((Vector.replicate 256 (0:Int)).toList.map AK))::(Z4 n8 x96 x97 x98 x99 x100 x101 n102 n104 x105.length (x106.toList.map AK) n107 x108.length n109 x110.length)::(n102,(.map (Am Value.string AB x103)))::(C5 n104 x105)::(Z5 n107 x108)::(n109,(Z3 x110))::(n111,(Z3 x112))::[])) (by first|rfl|simp only[b14,m16,cond_true,cond_false]) ?_;refine .a 1 ?_;exact .nE (d:=95) rfl ⟨⟨95,_,rfl,rfl,rfl⟩,.of_eq (by first|rfl|simp only[b14,m16,cond_true,cond_false]) (.refl _)⟩
      ·refine .calm (fun _ _=>rfl) fun L σ hc hi hd=>?_;have m14:L 14=false:=hc.neg (i:=1) (j:=14) rfl (by rfl) hi;have m14:L 14=false:=hc.neg (i:=1) (j:=14) rfl (by rfl) hi;have m16:L 16=false:=hc.neg (i:=14) (j:=16) rfl (by rfl) m14;refine .heq (H':=((n3,(.mem (BK p0)))::(BA n4 ((Vector.replicate 256 (0:Int)).toList.map AK))::(Z4 n8 x96 x97 x98 x99 x100 x101 n102 n104 x105.length (x106.toList.map AK) n107 x108.length n109 x110.length)::(n102,(.map (Am Value.string AB x103)))::(C5 n104 x105)::(Z5 n107 x108)::(n109,(Z3 x110))::(n111,(Z3 x112))::[])) (by first|rfl|simp only[m14,m16,cond_true,cond_false]) ?_;refine .a 1 ?_;exact .nE (d:=96) rfl ⟨⟨96,_,rfl,rfl,rfl⟩,.of_eq (by first|rfl|simp only[m14,m16,cond_true,cond_false]) (.refl _)⟩
      ·refine .calm (fun _ _=>rfl) fun L σ hc hi hd=>?_;refine .a 1 ?_;exact .nE (d:=97) rfl ⟨⟨97,_,rfl,rfl,rfl⟩,.refl _⟩
      ·refine .calm (fun _ _=>rfl) fun L σ hc hi hd=>?_;refine .a 1 ?_;exact .nE (d:=98) rfl ⟨⟨98,_,rfl,rfl,rfl⟩,.refl _⟩
      ·refine .calm (fun _ _=>rfl) fun L σ hc hi hd=>?_;have m5:L 5=false:=hc.neg (i:=4) (j:=5) rfl (by rfl) hi;have m6:L 6=false:=hc.neg (i:=5) (j:=6) rfl (by rfl) m5;have m7:L 7=false:=hc.neg (i:=6) (j:=7) rfl (by rfl) m6;have m9:L 9=false:=hc.neg (i:=7) (j:=9) rfl (by rfl) m7;have m10:L 10=false:=hc.neg (i:=9) (j:=10) rfl (by rfl) m9;have m12:L 12=false:=hc.neg (i:=10) (j:=12) rfl (by rfl) m10;have m13:L 13=false:=hc.neg (i:=12) (j:=13) rfl (by rfl) m12;have m14:L 14=false:=hc.neg (i:=13) (j:=14) rfl (by rfl) m13;have m5:L 5=false:=hc.neg (i:=4) (j:=5) rfl (by rfl) hi;have m6:L 6=false:=hc.neg (i:=5) (j:=6) rfl (by rfl) m5;have m7:L 7=false:=hc.neg (i:=6) (j:=7) rfl (by rfl) m6;have m9:L 9=false:=hc.neg (i:=7) (j:=9) rfl (by rfl) m7;have m10:L 10=false:=hc.neg (i:=9) (j:=10) rfl (by rfl) m9;have m12:L 12=false:=hc.neg (i:=10) (j:=12) rfl (by rfl) m10;have m13:L 13=false:=hc.neg (i:=12) (j:=13) rfl (by rfl) m12;have m14:L 14=false:=hc.neg (i:=13) (j:=14) rfl (by rfl) m13;have m16:L 16=false:=hc.neg (i:=14) (j:=16) rfl (by rfl) m14;refine .heq (H':=((n3,(.mem (BK p0)))::(BA n4 ((Vector.replicate 256 (0:Int)).toList.map AK))::(Z4 n8 x96 x97 x98 x99 x100 x101 n102 n104 x105.length (x106.toList.map AK) n107 x108.length n109 x110.length)::(n102,(.map (Am Value.string AB x103)))::(C5 n104 x105)::(Z5 n107 x108)::(n109,(Z3 x110))::(n111,(Z3 x112))::[])) (by first|rfl|simp only[m14,m16,cond_true,cond_false]) ?_;refine .a 1 ?_
       exact .nE (d:=99) rfl ⟨⟨99,_,rfl,rfl,rfl⟩,.of_eq (by first|rfl|simp only[m14,m16,cond_true,cond_false]) (.refl _)⟩
      ·refine .calm (fun _ _=>rfl) fun L σ hc hi hd=>?_;have m6:L 6=false:=hc.neg (i:=5) (j:=6) rfl (by rfl) hi;have m7:L 7=false:=hc.neg (i:=6) (j:=7) rfl (by rfl) m6;have m9:L 9=false:=hc.neg (i:=7) (j:=9) rfl (by rfl) m7;have m10:L 10=false:=hc.neg (i:=9) (j:=10) rfl (by rfl) m9;have m12:L 12=false:=hc.neg (i:=10) (j:=12) rfl (by rfl) m10;have m13:L 13=false:=hc.neg (i:=12) (j:=13) rfl (by rfl) m12;have m14:L 14=false:=hc.neg (i:=13) (j:=14) rfl (by rfl) m13;have m6:L 6=false:=hc.neg (i:=5) (j:=6) rfl (by rfl) hi;have m7:L 7=false:=hc.neg (i:=6) (j:=7) rfl (by rfl) m6;have m9:L 9=false:=hc.neg (i:=7) (j:=9) rfl (by rfl) m7;have m10:L 10=false:=hc.neg (i:=9) (j:=10) rfl (by rfl) m9;have m12:L 12=false:=hc.neg (i:=10) (j:=12) rfl (by rfl) m10;have m13:L 13=false:=hc.neg (i:=12) (j:=13) rfl (by rfl) m12;have m14:L 14=false:=hc.neg (i:=13) (j:=14) rfl (by rfl) m13;have m16:L 16=false:=hc.neg (i:=14) (j:=16) rfl (by rfl) m14;refine .heq (H':=((n3,(.mem (BK p0)))::(BA n4 ((Vector.replicate 256 (0:Int)).toList.map AK))::(Z4 n8 x96 x97 x98 x99 x100 x101 n102 n104 x105.length (x106.toList.map AK) n107 x108.length n109 x110.length)::(n102,(.map (Am Value.string AB x103)))::(C5 n104 x105)::(Z5 n107 x108)::(n109,(Z3 x110))::(n111,(Z3 x112))::[])) (by first|rfl|simp only[m14,m16,cond_true,cond_false]) ?_;refine .a 1 ?_;exact .nE (d:=100) rfl ⟨⟨100,_,rfl,rfl,rfl⟩,.of_eq (by first|rfl|simp only[m14,m16,cond_true,cond_false]) (.refl _)⟩
      ·refine .calm (fun _ _=>rfl) fun L σ hc hi hd=>?_;have m7:L 7=false:=hc.neg (i:=6) (j:=7) rfl (by rfl) hi;have m9:L 9=false:=hc.neg (i:=7) (j:=9) rfl (by rfl) m7;have m10:L 10=false:=hc.neg (i:=9) (j:=10) rfl (by rfl) m9;have m12:L 12=false:=hc.neg (i:=10) (j:=12) rfl (by rfl) m10;have m13:L 13=false:=hc.neg (i:=12) (j:=13) rfl (by rfl) m12;have m14:L 14=false:=hc.neg (i:=13) (j:=14) rfl (by rfl) m13;have m7:L 7=false:=hc.neg (i:=6) (j:=7) rfl (by rfl) hi;have m9:L 9=false:=hc.neg (i:=7) (j:=9) rfl (by rfl) m7;have m10:L 10=false:=hc.neg (i:=9) (j:=10) rfl (by rfl) m9;have m12:L 12=false:=hc.neg (i:=10) (j:=12) rfl (by rfl) m10;have m13:L 13=false:=hc.neg (i:=12) (j:=13) rfl (by rfl) m12;have m14:L 14=false:=hc.neg (i:=13) (j:=14) rfl (by rfl) m13;have m16:L 16=false:=hc.neg (i:=14) (j:=16) rfl (by rfl) m14;refine .heq (H':=((n3,(.mem (BK p0)))::(BA n4 ((Vector.replicate 256 (0:Int)).toList.map AK))::(Z4 n8 x96 x97 x98 x99 x100 x101 n102 n104 x105.length (x106.toList.map AK) n107 x108.length n109 x110.length)::(n102,(.map (Am Value.string AB x103)))::(C5 n104 x105)::(Z5 n107 x108)::(n109,(Z3 x110))::(n111,(Z3 x112))::[])) (by first|rfl|simp only[m14,m16,cond_true,cond_false]) ?_;refine .a 1 ?_;exact .nE (d:=101) rfl ⟨⟨101,_,rfl,rfl,rfl⟩,.of_eq (by first|rfl|simp only[m14,m16,cond_true,cond_false]) (.refl _)⟩
      ·refine .calm (fun _ _=>rfl) fun L σ hc hi hd=>?_;have m9:L 9=false:=hc.neg (i:=7) (j:=9) rfl (by rfl) hi;have m10:L 10=false:=hc.neg (i:=9) (j:=10) rfl (by rfl) m9;have m12:L 12=false:=hc.neg (i:=10) (j:=12) rfl (by rfl) m10;have m13:L 13=false:=hc.neg (i:=12) (j:=13) rfl (by rfl) m12;have m14:L 14=false:=hc.neg (i:=13) (j:=14) rfl (by rfl) m13;have m9:L 9=false:=hc.neg (i:=7) (j:=9) rfl (by rfl) hi;have m10:L 10=false:=hc.neg (i:=9) (j:=10) rfl (by rfl) m9;have m12:L 12=false:=hc.neg (i:=10) (j:=12) rfl (by rfl) m10;have m13:L 13=false:=hc.neg (i:=12) (j:=13) rfl (by rfl) m12;have m14:L 14=false:=hc.neg (i:=13) (j:=14) rfl (by rfl) m13;have m16:L 16=false:=hc.neg (i:=14) (j:=16) rfl (by rfl) m14;refine .heq (H':=((n3,(.mem (BK p0)))::(BA n4 ((Vector.replicate 256 (0:Int)).toList.map AK))::(Z4 n8 x96 x97 x98 x99 x100 x101 n102 n104 x105.length (x106.toList.map AK) n107 x108.length n109 x110.length)::(n102,(.map (Am Value.string AB x103)))::(C5 n104 x105)::(Z5 n107 x108)::(n109,(Z3 x110))::(n111,(Z3 x112))::[])) (by first|rfl|simp only[m14,m16,cond_true,cond_false]) ?_;refine .a 1 ?_;exact .nE (d:=102) rfl ⟨⟨102,_,rfl,rfl,rfl⟩,.of_eq (by first|rfl|simp only[m14,m16,cond_true,cond_false]) (.refl _)⟩
      ·refine .calm (fun _ _=>rfl) fun L σ hc hi hd=>?_;refine .a 1 ?_;exact .nE (d:=103) rfl ⟨⟨103,_,rfl,rfl,rfl⟩,.refl _⟩
      ·refine .calm (fun _ _=>rfl) fun L σ hc hi hd=>?_;have m10:L 10=false:=hc.neg (i:=9) (j:=10) rfl (by rfl) hi;have m12:L 12=false:=hc.neg (i:=10) (j:=12) rfl (by rfl) m10;have m13:L 13=false:=hc.neg (i:=12) (j:=13) rfl (by rfl) m12;have m14:L 14=false:=hc.neg (i:=13) (j:=14) rfl (by rfl) m13;have m10:L 10=false:=hc.neg (i:=9) (j:=10) rfl (by rfl) hi;have m12:L 12=false:=hc.neg (i:=10) (j:=12) rfl (by rfl) m10;have m13:L 13=false:=hc.neg (i:=12) (j:=13) rfl (by rfl) m12;have m14:L 14=false:=hc.neg (i:=13) (j:=14) rfl (by rfl) m13;have m16:L 16=false:=hc.neg (i:=14) (j:=16) rfl (by rfl) m14;refine .heq (H':=((n3,(.mem (BK p0)))::(BA n4 ((Vector.replicate 256 (0:Int)).toList.map AK))::(Z4 n8 x96 x97 x98 x99 x100 x101 n102 n104 x105.length (x106.toList.map AK) n107 x108.length n109 x110.length)::(n102,(.map (Am Value.string AB x103)))::(C5 n104 x105)::(Z5 n107 x108)::(n109,(Z3 x110))::(n111,(Z3 x112))::[])) (by first|rfl|simp only[m14,m16,cond_true,cond_false]) ?_;refine .a 1 ?_;exact .nE (d:=104) rfl ⟨⟨104,_,rfl,rfl,rfl⟩,.of_eq (by first|rfl|simp only[m14,m16,cond_true,cond_false]) (.refl _)⟩
      ·refine .calm (fun _ _=>rfl) fun L σ hc hi hd=>?_;have m12:L 12=false:=hc.neg (i:=10) (j:=12) rfl (by rfl) hi;have m13:L 13=false:=hc.neg (i:=12) (j:=13) rfl (by rfl) m12;have m14:L 14=false:=hc.neg (i:=13) (j:=14) rfl (by rfl) m13;have m12:L 12=false:=hc.neg (i:=10) (j:=12) rfl (by rfl) hi;have m13:L 13=false:=hc.neg (i:=12) (j:=13) rfl (by rfl) m12;have m14:L 14=false:=hc.neg (i:=13) (j:=14) rfl (by rfl) m13;have m16:L 16=false:=hc.neg (i:=14) (j:=16) rfl (by rfl) m14;refine .heq (H':=((n3,(.mem (BK p0)))::(BA n4 ((Vector.replicate 256 (0:Int)).toList.map AK))::(Z4 n8 x96 x97 x98 x99 x100 x101 n102 n104 x105.length (x106.toList.map AK) n107 x108.length n109 x110.length)::(n102,(.map (Am Value.string AB x103)))::(C5 n104 x105)::(Z5 n107 x108)::(n109,(Z3 x110))::(n111,(Z3 x112))::[])) (by first|rfl|simp only[m14,m16,cond_true,cond_false]) ?_;refine .wK [104] ?_;refine .c (.load 4 rfl rfl rfl (.cast (.lidx x56 g118.1 g118.2 .here) (by omega)) UZ IW) ?_;exact .nE (d:=105) rfl ⟨⟨105,_,rfl,rfl,rfl⟩,.of_eq (by first|rfl|simp only[m14,m16,cond_true,cond_false]) (.refl _)⟩
      ·refine .calm (fun _ _=>rfl) fun L σ hc hi hd=>?_;refine .a 1 ?_;exact .nE (d:=106) rfl ⟨⟨106,_,rfl,rfl,rfl⟩,.refl _⟩
      ·refine .calm (fun _ _=>rfl) fun L σ hc hi hd=>?_;refine .wK [98,105,106] ?_;refine .callS [(BK p0),(Ln (AA x105 x56)),(AK (AA x46 x113))] (Ln t119) 107 rfl (by decide) cE rfl rfl rfl ⟨rfl,rfl,rfl,rfl,rfl,rfl,trivial⟩ (SE et119) ?_;exact .nE (d:=107) rfl ⟨⟨107,_,rfl,rfl,rfl⟩,.refl _⟩
      ·refine .calm (fun _ _=>rfl) fun L σ hc hi hd=>?_;refine .wK [97,107] ?_;refine .callS [(BK p0),(Ln t119)] (Ln t120) 108 rfl (by decide) aa rfl rfl rfl ⟨rfl,rfl,rfl,rfl,trivial⟩ (OV et120) ?_;exact .nE (d:=108) rfl ⟨⟨108,_,rfl,rfl,rfl⟩,.refl _⟩
      ·intro L σ hc hi hd;have m16:L 16=false:=hc.neg (i:=14) (j:=16) rfl (by rfl) hi;refine .heq (H':=((n3,(.mem (BK p0)))::(BA n4 ((Vector.replicate 256 (0:Int)).toList.map AK))::(Z4 n8 x96 x97 x98 x99 x100 x101 n102 n104 x105.length (x106.toList.map AK) n107 x108.length n109 x110.length)::(n102,(.map (Am Value.string AB x103)))::(C5 n104 x105)::(Z5 n107 x108)::(n109,(Z3 x110))::(n111,(Z3 x112))::[])) (by first|rfl|simp only[hi,m16,cond_true,cond_false]) ?_;refine .wK [96,108] ?_;refine .callH [(.ptr n8 0),(Ln t120)] [(Z4 n8 x96 x97 x98 x99 x100 x101 n102 n104 x105.length (x106.toList.map AK) n107 x108.length n109 x110.length),(n102,(.map (Am Value.string AB x103))),(C5 n104 x105),(Z5 n107 x108),(n109,(Z3 x110)),(n3,(.mem (BK p0))),(BA n4 ((Vector.replicate 256 (0:Int)).toList.map AK)),(n111,(Z3 x112))] _ rfl rfl rfl 109 rfl (by decide) ZW ⟨rfl,rfl,rfl,rfl,trivial⟩ (.cons 2 rfl (.cons 2 rfl (.cons 2 rfl (.cons 2 rfl (.cons 2 rfl (.refl _)))))) (N5 et121) ?_;rintro _ _ ⟨n123,n124,n125,n126,rfl,hs122⟩;refine .wH [96,108,109] hs122 ?_;have a14:A5 L 14 14=true:=rfl;have a16:A5 L 14 16=false:=m16;have u14:Cf (Cf (Cf (Cf σ 14 n123) 1014 n124) 2014 n125) 3014 n126 14=n123:=rfl;have u1014:Cf (Cf (Cf (Cf σ 14 n123) 1014 n124) 2014 n125) 3014 n126 1014=n124:=rfl;have u2014:Cf (Cf (Cf (Cf σ 14 n123) 1014 n124) 2014 n125) 3014 n126 2014=n125:=rfl;have u3014:Cf (Cf (Cf (Cf σ 14 n123) 1014 n124) 2014 n125) 3014 n126 3014=n126:=rfl
       have u16:Cf (Cf (Cf (Cf σ 14 n123) 1014 n124) 2014 n125) 3014 n126 16=σ 16:=rfl;exact .nE (d:=109) rfl ⟨(Cf (Cf (Cf (Cf σ 14 n123) 1014 n124) 2014 n125) 3014 n126),(fun j hj=>match j,hj with |0,_=>rfl|1,_=>rfl|2,_=>rfl|3,_=>rfl|4,_=>rfl|5,_=>rfl|6,_=>rfl|7,_=>rfl|8,_=>rfl|9,_=>rfl|10,_=>rfl|11,_=>rfl|12,_=>rfl|13,_=>rfl|14,hj=>Bool.noConfusion (hj.symm.trans hi)|15,_=>rfl|16,_=>rfl|17,_=>rfl|_+18,_=>rfl),(fun d' hd'=>⟨_,rfl,by cases hd';rfl⟩),.of_eq (B:=((n3,(.mem (BK p0)))::(BA n4 ((Vector.replicate 256 (0:Int)).toList.map AK))::(Z2 n8 t121.2.f0 t121.2.f1 t121.2.f2 n123 n124 t121.2.f4.length (t121.2.f5.f0.toList.map AK) n125 t121.2.f5.f1.length n126 t121.2.f5.f2.length)::(n123,(.map (Am Value.string AB t121.2.f3)))::(C5 n124 t121.2.f4)::(Z5 n125 t121.2.f5.f1)::(n126,(Z3 t121.2.f5.f2))::(n111,(Z3 x112))::[])) (by simp only[a14,a16,u14,u1014,u2014,u3014,u16,cond_true,cond_false]) (.cons 5 rfl (.cons 5 rfl (.cons 0 rfl (.cons 0 rfl (.cons 0 rfl (.cons 0 rfl (.cons 0 rfl (.cons 0 rfl (.refl _)))))))))⟩
      ·refine .calm (fun _ _=>rfl) fun L σ hc hi hd=>?_;refine .wK [109] ?_;refine .lit (Z:=(AB (0:Int))) (xs:=(([t121.1]:List Int).map AB)) (qs:=[(0,(AB t121.1))]) rfl 110 rfl (by decide) rfl ⟨rfl,rfl,rfl,trivial⟩ Tryz.underlying40 Bb Fj DT rfl (by decide) (An (z:=1) [(AB t121.1)] rfl ⟨⟨rfl,rfl⟩,trivial⟩) rfl fun n127=>?_;refine .freezeS 0 [(110,(Df ([t121.1]:List Int)))] rfl ⟨Aj rfl,trivial⟩ ?_;exact .nE (d:=110) rfl ⟨⟨110,_,rfl,rfl,rfl⟩,.refl _⟩
      ·intro L σ hc hi hd;have y14:L 14=true:=BC hd (i:=14) (by rfl);refine .heq (H':=((n3,(.mem (BK p0)))::(BA n4 ((Vector.replicate 256 (0:Int)).toList.map AK))::(Z2 n8 t121.2.f0 t121.2.f1 t121.2.f2 (σ 14) (σ 1014) t121.2.f4.length (t121.2.f5.f0.toList.map AK) (σ 2014) t121.2.f5.f1.length (σ 3014) t121.2.f5.f2.length)::((σ 14),(.map (Am Value.string AB t121.2.f3)))::((σ 1014),(.mem (.ar 1 (t121.2.f4.map G7))))::((σ 2014),(.mem (.ar 1 (t121.2.f5.f1.map Ce))))::((σ 3014),(Z3 t121.2.f5.f2))::(n111,(Z3 x112))::[])) (by first|rfl|simp only[hi,y14,cond_true,cond_false]) ?_;refine .wK [95,110] ?_;refine .appendL (l:=x112) (m:=([t121.1]:List Int)) 7 111 rfl (by decide) rfl rfl rfl rfl rfl CS.fz Tryz.underlying40 Tryz.underlying40 Bb KP Fj rfl g129 (by decide) fun n128=>?_;have a14:A5 L 16 14=true:=y14;have a16:A5 L 16 16=true:=rfl;have u14:Cf σ 16 n128 14=σ 14:=rfl;have u1014:Cf σ 16 n128 1014=σ 1014:=rfl;have u2014:Cf σ 16 n128 2014=σ 2014:=rfl;have u3014:Cf σ 16 n128 3014=σ 3014:=rfl;have u16:Cf σ 16 n128 16=n128:=rfl;have m17:L 17=false:=hc.neg (i:=16) (j:=17) rfl (by rfl) hi
       exact .nE (d:=111) rfl ⟨(Cf σ 16 n128),(fun j hj=>match j,hj with |0,_=>rfl|1,_=>rfl|2,_=>rfl|3,_=>rfl|4,_=>rfl|5,_=>rfl|6,_=>rfl|7,_=>rfl|8,_=>rfl|9,_=>rfl|10,_=>rfl|11,_=>rfl|12,_=>rfl|13,_=>rfl|14,_=>rfl|15,_=>rfl|16,hj=>Bool.noConfusion (hj.symm.trans hi)|17,hj=>Bool.noConfusion (hj.symm.trans m17)|_+18,_=>rfl),(fun d' hd'=>⟨_,rfl,by cases hd';rfl⟩),.of_eq (B:=((n3,(.mem (BK p0)))::(BA n4 ((Vector.replicate 256 (0:Int)).toList.map AK))::(Z2 n8 t121.2.f0 t121.2.f1 t121.2.f2 (σ 14) (σ 1014) t121.2.f4.length (t121.2.f5.f0.toList.map AK) (σ 2014) t121.2.f5.f1.length (σ 3014) t121.2.f5.f2.length)::((σ 14),(.map (Am Value.string AB t121.2.f3)))::((σ 1014),(.mem (.ar 1 (t121.2.f4.map G7))))::((σ 2014),(.mem (.ar 1 (t121.2.f5.f1.map Ce))))::((σ 3014),(Z3 t121.2.f5.f2))::(n128,(Z3 (x112++([t121.1]:List Int))))::[])) (by simp only[a14,a16,u14,u1014,u2014,u3014,u16,cond_true,cond_false]) (.refl _)⟩
      ·refine .calm (fun _ _=>rfl) fun L σ hc hi hd=>?_;have y14:L 14=true:=BC hd (i:=14) (by rfl);have y16:L 16=true:=BC hd (i:=16) (by rfl);refine .heq (H':=((n3,(.mem (BK p0)))::(BA n4 ((Vector.replicate 256 (0:Int)).toList.map AK))::(Z2 n8 t121.2.f0 t121.2.f1 t121.2.f2 (σ 14) (σ 1014) t121.2.f4.length (t121.2.f5.f0.toList.map AK) (σ 2014) t121.2.f5.f1.length (σ 3014) t121.2.f5.f2.length)::((σ 14),(.map (Am Value.string AB t121.2.f3)))::((σ 1014),(.mem (.ar 1 (t121.2.f4.map G7))))::((σ 2014),(.mem (.ar 1 (t121.2.f5.f1.map Ce))))::((σ 3014),(Z3 t121.2.f5.f2))::((σ 16),(Z3 (x112++([t121.1]:List Int))))::[])) (by first|rfl|simp only[y14,y16,cond_true,cond_false]) ?_;refine .a 1 ?_;exact .nE (d:=10) rfl ⟨⟨10,_,rfl,rfl,rfl⟩,.of_eq (by first|rfl|simp only[y14,y16,cond_true,cond_false]) (.refl _)⟩
      generalize σ 14=n123;generalize σ 1014=n124;generalize σ 2014=n125;generalize σ 3014=n126;generalize σ 16=n128;refine .a 4 ?_;refine .nK [2,4,6,9,10,89,90,91] ?_;exact⟨kq115,Nat.lt_succ_self _,n123,n124,n125,n126,n128,t121.2.f0.f0,t121.2.f0.f1,t121.2.f0.f2,t121.2.f0.f3,t121.2.f1,t121.2.f2,t121.2.f3,t121.2.f4,t121.2.f5.f0,t121.2.f5.f1,t121.2.f5.f2,(x112++([t121.1]:List Int)),(AG (x113+(1:Int))),rfl,rfl,by rw[hrec114];exact h⟩
     refine .a 1 ?_;refine .eK [2,4,6,9,10] ?_;exact⟨n102,n104,n107,n109,n111,x96,x97,x98,x99,x100,x101,x103,x105,x106,x108,x110,x112,rfl,rfl,h⟩
    rintro _ _ ⟨n82,n84,n87,n89,n91,x76,x77,x78,x79,x80,x81,x83,x85,x86,x88,x90,x92,rfl,rfl,h⟩;rw[Mh.eq_1]at h;refine .a 8 ?_;refine .freezeS 7 [(10,(.fz 1 (x92.map AB))),(119,(.fz 1 (x92.map AB)))] rfl ⟨Aj rfl,Aj rfl,trivial⟩ ?_;refine .lit (Z:=(.fl (.slice none 0 0))) (xs:=(([x92]:List (List Int)).map Ce)) (qs:=[(0,(.fz 1 (x92.map AB)))]) rfl 120 rfl (by decide) rfl ⟨rfl,rfl,rfl,trivial⟩ Tryz.underlying39 HI KT Ng rfl (by decide) (An (z:=1) [(.fz 1 (x92.map AB))] rfl ⟨⟨rfl,rfl⟩,trivial⟩) rfl fun n93=>?_;obtain⟨g95,h⟩:=AC h;refine .appendL (l:=x88) (m:=([x92]:List (List Int))) 6 121 rfl (by decide) rfl rfl rfl rfl rfl (CS.ownL (f:=Ce) (l:=([x92]:List (List Int))) 0 rfl) Tryz.underlying39 Tryz.underlying39 HI Ud KT rfl g95 (by decide) fun n94=>?_;refine .a 3 ?_;refine .store 3 rfl rfl rfl rfl rfl rfl (.cast (.fldS (.fldS (.fldS (.fldS (.fldS (.fld0 (.fldS (.fld0 .here)))))))) rfl) rfl rfl KM rfl ?_;refine .nS [2,4,6,9] [1,2,3,4,5,6,7] ?_;exact⟨n82,n84,n94,n89,x76,x77,x78,x79,x80,x81,x83,x85,x86,(x88++([x92]:List (List Int))),x90,rfl,rfl,h⟩
   rintro _ _ ⟨n66,n68,n71,n73,x60,x61,x62,x63,x64,x65,x67,x69,x70,x72,x74,rfl,rfl,h⟩;rw[Mz.eq_1]at h;refine .a 4 ?_;refine .nK [2,4,6,9] ?_;exact⟨kq58,Nat.lt_succ_self _,n66,n68,n71,n73,x60,x61,x62,x63,x64,x65,x67,x69,x70,x72,x74,(AG (x56+(1:Int))),rfl,rfl,by rw[hrec57];exact h⟩
  refine .a 1 ?_;refine .eH [4,6] (H':=[(BA n4 ((Vector.replicate 256 (0:Int)).toList.map AK)),(Z4 n8 x41 x42 x43 x44 x45 x46 n47 n49 x50.length (x51.toList.map AK) n52 x53.length n54 x55.length),(n47,(.map (Am Value.string AB x48))),(C5 n49 x50),(Z5 n52 x53),(n54,(Z3 x55))]) (.cons 1 rfl (.cons 1 rfl (.cons 1 rfl (.cons 1 rfl (.cons 1 rfl (.cons 1 rfl (.nil _))))))) ?_;exact⟨n47,n49,n52,n54,x41,x42,x43,x44,x45,x46,x48,x50,x51,x53,x55,rfl,rfl,h⟩
 rintro _ _ ⟨n32,n34,n37,n39,x26,x27,x28,x29,x30,x31,x33,x35,x36,x38,x40,rfl,rfl,h⟩;rw[O3.eq_1]at h;refine .a 5 ?_;refine .freezeFld (X':=(.st [(4,(aN x26 x27 x28 x29)),(1,(.fz 1 (x30.map AB))),(1,(.fz 1 (x31.map AK))),(1,(.mp n32)),(1,(.own n34 0 x35.length)),(258,(.st [(256,(.ar 1 (x36.toList.map AK))),(1,(.fz 1 (x38.map Ce))),(1,(.own n39 0 x40.length))]))])) (els':=(x38.map Ce)) 4 1 rfl rfl (.cast (.fldS (.fldS (.fldS (.fldS (.fldS (.fld0 (.fldS (.fld0 .here)))))))) rfl) (by simp) (by rw[Be]) rfl rfl (by decide) ?_;refine .freezeFld (X':=(.st [(4,(aN x26 x27 x28 x29)),(1,(.fz 1 (x30.map AB))),(1,(.fz 1 (x31.map AK))),(1,(.mp n32)),(1,(.own n34 0 x35.length)),(258,(PP (x36.toList.map AK) x38 x40))])) (els':=(x40.map AB)) 4 1 rfl rfl (.cast (.fldS (.fldS (.fldS (.fldS (.fldS (.fld0 (.fldS (.fldS (.fld0 .here))))))))) rfl) (by simp) (by rw[Be]) rfl rfl (by decide) ?_;refine .a 1 ?_;refine .store 0 rfl rfl rfl rfl rfl rfl (.cast .here rfl) rfl rfl BQ rfl ?_;refine .a 1 ?_;refine .nS [4,5] [0] ?_;refine .rK [4,5] ?_;cases h;exact⟨[(Ak (AI.mk x36 x38 x40)),(AB (0:Int))],⟨⟨_,0,rfl,rfl,E9,BQ⟩,rfl,rfl,trivial⟩,rfl⟩
end Go.Avl.T8
namespace Go.Avl.T8
open Go Go.RowKit Go.Proofs Go.Avl
set_option linter.unusedVariables false
set_option maxRecDepth 100000
set_option maxHeartbeats 4000000
attribute [local irreducible] AW AO AQ AY Aq AH
def GM (k:Nat) (p0:Ar) (x8:(List Int)):Option (AI×Int):=
 if 0≤p0.f3∧p0.f3<(x8.length:Int)then(Xz k p0 (AU x8 p0.f3 (0:Int))).bind fun t10=>
 some (t10.1,t10.2)
 else none
def Cx (k:Nat) (p0:Ar):Nat→(List Int)→Int→Option (AI×Int)
 | 0,_,_=>none
 | j+1,x11,x12=>
   if x12<((List.replicate p0.f0.toNat (0:Int)).length:Int)then if 0≤x12∧x12<(x11.length:Int)then(Cx k p0 j) (AU x11 x12 (-1:Int)) (AG (x12+(1:Int)))
   else none
   else GM k p0 x11
def RY (k:Nat) (p0:Ar):Option (AI×Int):=
 (Yn k p0).bind fun t4=>
 if(!t4)=true then some ((AI.mk (Vector.replicate 256 (0:Int)) ([]:List (List Int)) ([]:List Int)),(1:Int))
 else if 0≤p0.f0∧p0.f0*(8:Int)≤140737488355328∧p0.f0≤9223372036854775807 then Cx k p0 k (List.replicate p0.f0.toNat (0:Int)) (0:Int)
 else none
theorem RG {k:Nat} {p0:Ar} {r:(AI×Int)} (h:RY k p0=some r):AY Tryz.prog 107 [(BK p0)] (.tup [(Ak r.1),(AB r.2)]):=by
 rw[RY.eq_1]at h;refine AY.intro (res:=[.cell 2 42,.tmp 3]) Tryz.func107 rfl rfl rfl (Nat.le_of_ble_eq_true rfl) ?_;refine .sr ?_;refine .box rfl 1 rfl (by decide) rfl rfl rfl fun n2=>?_;refine .alloc rfl 2 rfl (by decide) rfl CY BV fun n3=>?_;refine .a 1 ?_;refine .nS [1,2] [1,0] ?_;refine .a 4 ?_;obtain⟨t4,et4,h⟩:=ob h;refine .callS [(BK p0)] (AD t4) 7 rfl (by decide) Yy rfl rfl rfl ⟨rfl,rfl,trivial⟩ (Oh et4) ?_;refine .a 2 ?_;rcases oi h with⟨c5,h⟩|⟨c5,h⟩
 ·refine .a 3 ?_;refine .c (x:=(Z0 ((Vector.replicate 256 (0:Int)).toList.map AK))) (.build (qs:=[]) rfl trivial Tryz.underlying42 rfl CY BV .nil rfl) ?_;refine .store 1 rfl rfl rfl rfl rfl rfl (.cast .here rfl) rfl rfl BQ rfl ?_;refine .a 1 ?_;refine .nS [2,3] [1] ?_;refine .coeFld (X':=(Uz ((Vector.replicate 256 (0:Int)).toList.map AK) ([]:List (List Int)))) 0 rfl (.cast (.fldS (.fld0 .here)) rfl) rfl (Bc 1) rfl rfl ?_;refine .coeFld (X':=(PP ((Vector.replicate 256 (0:Int)).toList.map AK) ([]:List (List Int)) ([]:List Int))) 0 rfl (.cast (.fldS (.fldS (.fld0 .here))) rfl) rfl (Bc 1) rfl rfl ?_;refine .rK [2,3] ?_;cases h;exact⟨[(Ak (AI.mk (Vector.replicate 256 (0:Int)) ([]:List (List Int)) ([]:List Int))),(AB (1:Int))],⟨⟨_,0,rfl,rfl,E9,BQ⟩,rfl,rfl,trivial⟩,rfl⟩
 refine .a 6 ?_;obtain⟨g7,h⟩:=AC h;refine .makeL (f:=AB) (0:Int) rfl 12 rfl (by decide) rfl rfl rfl Tryz.underlying40 Bb KP Fj DT rfl g7 fun n6=>?_;refine .a 1 ?_;refine .nS [1,2,4] [1,2,0] ?_;refine .seq_mid (fun ρ H=>∃ (x8:(List Int)),ρ=[(1,(.ptr n2 0)),(2,(.ptr n3 0)),(4,(.own n6 0 x8.length))]∧H=[(n2,(.mem (BK p0))),(BA n3 ((Vector.replicate 256 (0:Int)).toList.map AK)),(n6,(Z3 x8))]∧GM k p0 x8=some r) ?_ ?_
 ·refine .a 7 ?_;refine .wK [1,2,4,14,15] ?_;refine .loop (fun kq ρ H=>∃ (x11:(List Int)) (x12:Int),ρ=[(1,(.ptr n2 0)),(2,(.ptr n3 0)),(4,(.own n6 0 x11.length)),(14,(AB ((List.replicate p0.f0.toNat (0:Int)).length:Int))),(15,(AB x12))]∧H=[(n2,(.mem (BK p0))),(BA n3 ((Vector.replicate 256 (0:Int)).toList.map AK)),(n6,(Z3 x11))]∧Cx k p0 kq x11 x12=some r) k ⟨(List.replicate p0.f0.toNat (0:Int)),(0:Int),rfl,rfl,h⟩ ?_;rintro kq14 _ _ ⟨x11,x12,rfl,rfl,h⟩
  cases kq14 with
  | zero=>rw[Cx.eq_1]at h;cases h
  | succ kq14=>
  rw[Cx.eq_2]at h;generalize hrec13:Cx k p0 kq14=rec13 at h;refine .a 5 ?_;rcases oi h with⟨c15,h⟩|⟨c15,h⟩
  ·refine .a 12 ?_;obtain⟨g16,h⟩:=AC h;refine .a 1 ?_;refine .store 2 rfl rfl rfl rfl rfl rfl (.cast (.lidx x12 (-1:Int) g16.1 g16.2 .here) (by omega)) rfl rfl Bb rfl ?_;refine .coe 4 (y':=(BL n6 (AU x11 x12 (-1:Int)).length)) rfl (fun _ _ h=>Ad h) ?_;refine .coe 18 (y':=(BL n6 (AU x11 x12 (-1:Int)).length)) rfl (fun _ _ h=>Ad h) ?_;refine .a 4 ?_;refine .nK [1,2,4,14,15] ?_;exact⟨kq14,Nat.lt_succ_self _,(AU x11 x12 (-1:Int)),(AG (x12+(1:Int))),rfl,rfl,by rw[hrec13];exact h⟩
  refine .a 1 ?_;refine .eK [1,2,4] ?_;exact⟨x11,rfl,rfl,h⟩
 rintro _ _ ⟨x8,rfl,rfl,h⟩;rw[GM.eq_1]at h;refine .a 5 ?_;obtain⟨g9,h⟩:=AC h;refine .a 1 ?_;refine .store 2 rfl rfl rfl rfl rfl rfl (.cast (.lidx p0.f3 (0:Int) g9.1 g9.2 .here) (by omega)) rfl rfl Bb rfl ?_;refine .coe 4 (y':=(BL n6 (AU x8 p0.f3 (0:Int)).length)) rfl (fun _ _ h=>Ad h) ?_;refine .coe 22 (y':=(BL n6 (AU x8 p0.f3 (0:Int)).length)) rfl (fun _ _ h=>Ad h) ?_;refine .a 5 ?_;obtain⟨t10,et10,h⟩:=ob h;refine .freezeS 2 [(4,(Df (AU x8 p0.f3 (0:Int)))),(27,(Df (AU x8 p0.f3 (0:Int))))] rfl ⟨Aj rfl,Aj rfl,trivial⟩ ?_;refine .callS [(BK p0),(Df (AU x8 p0.f3 (0:Int)))] (.tup [(Ak t10.1),(AB t10.2)]) 28 rfl (by decide) Y5 rfl rfl rfl ⟨rfl,rfl,rfl,rfl,trivial⟩ (ON et10) ?_;refine .a 2 ?_;refine .store 1 rfl rfl rfl rfl rfl rfl (.cast .here rfl) rfl rfl BQ rfl ?_;refine .a 1 ?_;refine .nS [2,3] [1] ?_;refine .rK [2,3] ?_;cases h;exact⟨[(Ak t10.1),(AB t10.2)],⟨⟨_,0,rfl,rfl,E9,BQ⟩,rfl,rfl,trivial⟩,rfl⟩
def YN (k:Nat) (p0:ByteArray):Option (AI×Int):=
 (WC k p0).bind fun t3=>
 if t3.2≠(0:Int)then some ((AI.mk (Vector.replicate 256 (0:Int)) ([]:List (List Int)) ([]:List Int)),t3.2)
 else(Yv k t3.1).bind fun t5=>
 if t5.2≠(0:Int)then some ((AI.mk (Vector.replicate 256 (0:Int)) ([]:List (List Int)) ([]:List Int)),t5.2)
 else(RY k t5.1).bind fun t8=>
 some (t8.1,t8.2)
theorem S0 {k:Nat} {p0:ByteArray} {r:(AI×Int)} (h:YN k p0=some r):AY Tryz.prog 79 [(AN p0)] (.tup [(Ak r.1),(AB r.2)]):=by
 rw[YN.eq_1]at h;refine AY.intro (res:=[.cell 2 42,.tmp 3]) Tryz.func79 rfl rfl rfl (Nat.le_of_ble_eq_true rfl) ?_;refine .sr ?_;refine .alloc rfl 2 rfl (by decide) rfl CY BV fun n2=>?_;refine .a 5 ?_;obtain⟨t3,et3,h⟩:=ob h;refine .callS [(AN p0)] (.tup [(.fz 5 (t3.1.map AM)),(AB t3.2)]) 9 rfl (by decide) Yz rfl rfl rfl ⟨rfl,rfl,trivial⟩ (Nf et3) ?_;refine .a 12 ?_;rcases oi h with⟨c4,h⟩|⟨c4,h⟩
 ·refine .a 3 ?_;refine .c (x:=(Z0 ((Vector.replicate 256 (0:Int)).toList.map AK))) (.build (qs:=[]) rfl trivial Tryz.underlying42 rfl CY BV .nil rfl) ?_;refine .a 1 ?_;refine .store 0 rfl rfl rfl rfl rfl rfl (.cast .here rfl) rfl rfl BQ rfl ?_;refine .a 1 ?_;refine .nK [2,3] ?_;refine .coeFld (X':=(Uz ((Vector.replicate 256 (0:Int)).toList.map AK) ([]:List (List Int)))) 0 rfl (.cast (.fldS (.fld0 .here)) rfl) rfl (Bc 1) rfl rfl ?_;refine .coeFld (X':=(PP ((Vector.replicate 256 (0:Int)).toList.map AK) ([]:List (List Int)) ([]:List Int))) 0 rfl (.cast (.fldS (.fldS (.fld0 .here))) rfl) rfl (Bc 1) rfl rfl ?_;refine .rK [2,3] ?_;cases h;exact⟨[(Ak (AI.mk (Vector.replicate 256 (0:Int)) ([]:List (List Int)) ([]:List Int))),(AB t3.2)],⟨⟨_,0,rfl,rfl,E9,BQ⟩,rfl,rfl,trivial⟩,rfl⟩
 refine .a 5 ?_;obtain⟨t5,et5,h⟩:=ob h;refine .callS [(.fz 5 (t3.1.map AM))] (.tup [(BK t5.1),(AB t5.2)]) 18 rfl (by decide) Zi rfl rfl rfl ⟨rfl,rfl,trivial⟩ (N2 et5) ?_;refine .a 3 ?_;refine .alloc rfl 6 rfl (by decide) rfl Jd Gl fun n6=>?_;refine .store 0 rfl rfl rfl rfl rfl rfl (.cast .here rfl) rfl rfl G4 rfl ?_;refine .a 1 ?_;refine .nS [2,5,6] [1,0] ?_;refine .a 6 ?_;rcases oi h with⟨c7,h⟩|⟨c7,h⟩
 ·refine .a 3 ?_;refine .c (x:=(Z0 ((Vector.replicate 256 (0:Int)).toList.map AK))) (.build (qs:=[]) rfl trivial Tryz.underlying42 rfl CY BV .nil rfl) ?_;refine .a 1 ?_;refine .store 0 rfl rfl rfl rfl rfl rfl (.cast .here rfl) rfl rfl BQ rfl ?_;refine .a 1 ?_;refine .nS [2,3] [0] ?_;refine .coeFld (X':=(Uz ((Vector.replicate 256 (0:Int)).toList.map AK) ([]:List (List Int)))) 0 rfl (.cast (.fldS (.fld0 .here)) rfl) rfl (Bc 1) rfl rfl ?_;refine .coeFld (X':=(PP ((Vector.replicate 256 (0:Int)).toList.map AK) ([]:List (List Int)) ([]:List Int))) 0 rfl (.cast (.fldS (.fldS (.fld0 .here))) rfl) rfl (Bc 1) rfl rfl ?_;refine .rK [2,3] ?_;cases h;exact⟨[(Ak (AI.mk (Vector.replicate 256 (0:Int)) ([]:List (List Int)) ([]:List Int))),(AB t5.2)],⟨⟨_,0,rfl,rfl,E9,BQ⟩,rfl,rfl,trivial⟩,rfl⟩
 refine .a 5 ?_;obtain⟨t8,et8,h⟩:=ob h;refine .callS [(BK t5.1)] (.tup [(Ak t8.1),(AB t8.2)]) 26 rfl (by decide) ZX rfl rfl rfl ⟨rfl,rfl,trivial⟩ (RG et8) ?_;refine .a 2 ?_;refine .store 0 rfl rfl rfl rfl rfl rfl (.cast .here rfl) rfl rfl BQ rfl ?_;refine .a 1 ?_;refine .nS [2,3] [0] ?_;refine .rK [2,3] ?_;cases h;exact⟨[(Ak t8.1),(AB t8.2)],⟨⟨_,0,rfl,rfl,E9,BQ⟩,rfl,rfl,trivial⟩,rfl⟩
def XM (k:Nat) (p0:AI) (p1:Int) (p2:Int):Option Int:=
 Option.bind (α:=Bool) (if p1<(0:Int)then some (true)
 else if(p0.f1.length:Int)≤p1 then some (true)
 else if 0≤p2∧p2<(256:Int)then if 0≤p1∧p1<(p0.f1.length:Int)then some (decide (((AA p0.f1 p1).length:Int)≤(AG (AZ p0.f0 p2))))
 else none
 else none) fun b5=>
 if b5=true then some ((-1:Int))
 else if 0≤p1∧p1<(p0.f1.length:Int)then if 0≤p2∧p2<(256:Int)then if 0≤(AZ p0.f0 p2)∧(AZ p0.f0 p2)<((AA p0.f1 p1).length:Int)then some ((AA (AA p0.f1 p1) (AZ p0.f0 p2)))
 else none
 else none
 else none
theorem R0 {k:Nat} {p0:AI} {p1:Int} {p2:Int} {r:Int} (h:XM k p0 p1 p2=some r):AY Tryz.prog 122 [(Ak p0),(AB p1),(AK p2)] (AB r):=by
 rw[XM.eq_1]at h;refine AY.intro (res:=[.tmp 6]) Tryz.func122 rfl rfl rfl (Nat.le_of_ble_eq_true rfl) ?_;refine .sr ?_;refine .box rfl 3 rfl (by decide) rfl rfl rfl fun n4=>?_;refine .a 4 ?_;obtain⟨b5,q6,h⟩:=ob h;refine .regQM (by rfl) (by decide+kernel) [(1,(AB p1)),(2,(AK p2)),(3,(.ptr n4 0)),(29,(AD b5))] ?_ ?_
 ·refine .a 3 ?_;rcases oi q6 with⟨c7,q6⟩|⟨c7,q6⟩
  ·refine .a 20 ?_;cases q6;refine .nilE rfl ?_;exact⟨rfl,rfl,rfl,rfl,trivial⟩
  refine .a 7 ?_;rcases oi q6 with⟨c8,q6⟩|⟨c8,q6⟩
  ·refine .a 13 ?_;cases q6;refine .nilE rfl ?_;exact⟨rfl,rfl,rfl,rfl,trivial⟩
  refine .a 2 ?_;obtain⟨g9,q6⟩:=AC q6;refine .cG rfl rfl (bD (decide_eq_false c8)) (.idxP rfl rfl rfl g9 Tryz.underlying38 Ew) ?_;refine .cG rfl rfl (bD (decide_eq_false c8)) (.load 0 rfl rfl rfl (.cast (.fld0 (.vidx p2 g9.1 g9.2 .here)) (by omega)) Ol Ew) ?_;refine .cG (x:=AB (AG (AZ p0.f0 p2))) rfl rfl (bD (decide_eq_false c8)) (.conv rfl rfl Tryz.underlying5 Tryz.underlying3) ?_;refine .cG (x:=.ptr n4 256) rfl rfl (bD (decide_eq_false c8)) (.fldPtr rfl rfl Tryz.underlying42 rfl KM _ rfl) ?_;refine .cG rfl rfl (bD (decide_eq_false c8)) (.load 0 rfl rfl rfl (.cast (.fldS (.fld0 .here)) rfl) Yd KM) ?_;refine .cG rfl rfl (bD (decide_eq_false c8)) (.move rfl rfl) ?_;obtain⟨g10,q6⟩:=AC q6;refine .a 5 ?_;cases q6;refine .nilE rfl ?_;exact⟨rfl,rfl,rfl,rfl,trivial⟩
 rcases oi h with⟨c11,h⟩|⟨c11,h⟩
 ·refine .a 4 ?_;refine .nS [6] [] ?_;refine .rK [6] ?_;cases h;exact⟨[(AB (-1:Int))],⟨rfl,rfl,trivial⟩,rfl⟩
 refine .a 3 ?_;refine .regQ (by rfl) (by decide+kernel) ?_;refine .a 3 ?_;obtain⟨g12,h⟩:=AC h;refine .a 4 ?_;obtain⟨g13,h⟩:=AC h;refine .c (.idxP rfl rfl rfl g13 Tryz.underlying38 Ew) ?_;refine .c (.load 0 rfl rfl rfl (.cast (.fld0 (.vidx p2 g13.1 g13.2 .here)) (by omega)) Ol Ew) ?_;obtain⟨g14,h⟩:=AC h;refine .a 3 ?_;refine .nK [6] ?_;refine .rH [6] (H':=[]) (.nil _) ?_;cases h;exact⟨[(AB (AA (AA p0.f1 p1) (AZ p0.f0 p2)))],⟨rfl,rfl,trivial⟩,rfl⟩
def Lh (k:Nat) (x5:Int):Option Int:=
 some (x5)
def Ga (k:Nat) (p0:AI) (p2:ByteArray):Nat→Int→Int→Option Int
 | 0,_,_=>none
 | j+1,x6,x7=>
   Option.bind (α:=Bool) (if x7<(p2.size:Int)then some (decide (x6≠(-1:Int)))
   else some (false)) fun b10=>
   if b10=true then if 0≤x7∧x7<(p2.size:Int)then(XM k p0 x6 (AF p2 x7)).bind fun t15=>
   (Ga k p0 p2 j) t15 (AG (x7+(1:Int)))
   else none
   else Lh k x6
def VI (k:Nat) (p0:AI) (p1:Int) (p2:ByteArray):Option Int:=
 Ga k p0 p2 k p1 (0:Int)
theorem Rv {k:Nat} {p0:AI} {p1:Int} {p2:ByteArray} {r:Int} (h:VI k p0 p1 p2=some r):AY Tryz.prog 109 [(Ak p0),(AB p1),(AN p2)] (AB r):=by
 rw[VI.eq_1]at h;refine AY.intro (res:=[.tmp 6]) Tryz.func109 rfl rfl rfl (Nat.le_of_ble_eq_true rfl) ?_;refine .sr ?_;refine .box rfl 3 rfl (by decide) rfl rfl rfl fun n4=>?_;refine .a 1 ?_;refine .nK [1,2,3] ?_;refine .seq_mid (fun ρ H=>∃ (x5:Int),ρ=[(1,(AB x5))]∧H=[]∧Lh k x5=some r) ?_ ?_
 ·refine .a 5 ?_;refine .wK [1,2,3,7] ?_;refine .loop (fun kq ρ H=>∃ (x6:Int) (x7:Int),ρ=[(1,(AB x6)),(2,(AN p2)),(3,(.ptr n4 0)),(7,(AB x7))]∧H=[(n4,(.mem (Ak p0)))]∧Ga k p0 p2 kq x6 x7=some r) k ⟨p1,(0:Int),rfl,rfl,h⟩ ?_;rintro kq9 _ _ ⟨x6,x7,rfl,rfl,h⟩
  cases kq9 with
  | zero=>rw[Ga.eq_1]at h;cases h
  | succ kq9=>
  rw[Ga.eq_2]at h;generalize hrec8:Ga k p0 p2 kq9=rec8 at h;refine .a 2 ?_;obtain⟨b10,q11,h⟩:=ob h;refine .regM [(1,(AB x6)),(2,(AN p2)),(3,(.ptr n4 0)),(7,(AB x7)),(15,(AD b10))] [(n4,(.mem (Ak p0)))] ?_ ?_
  ·refine .a 5 ?_;rcases oi q11 with⟨c12,q11⟩|⟨c12,q11⟩
   ·refine .a 3 ?_;cases q11;refine .nilE ⟨rfl,rfl⟩ ?_ ?_
    ·exact⟨rfl,rfl,rfl,rfl,rfl,trivial⟩
    exact(.refl _)
   refine .a 3 ?_;cases q11;refine .nilE ⟨rfl,rfl⟩ ?_ ?_
   ·exact⟨rfl,rfl,rfl,rfl,rfl,trivial⟩
   exact(.refl _)
  rcases oi h with⟨c13,h⟩|⟨c13,h⟩
  ·refine .a 4 ?_;refine .regQ (by rfl) (by decide+kernel) ?_;refine .a 4 ?_;obtain⟨g14,h⟩:=AC h;refine .a 1 ?_;obtain⟨t15,et15,h⟩:=ob h;refine .c (.call (args:=[(Ak p0),(AB x6),(AK (AF p2 x7))]) rfl rfl ZC ⟨rfl,rfl,rfl,rfl,rfl,rfl,trivial⟩ rfl (R0 et15)) ?_;refine .c (.assign rfl rfl) ?_;refine .nK [1,2,3,7] ?_;refine .reg ?_;refine .mv rfl rfl ?_;refine .c (x:=AB (AG (x7+(1:Int)))) (.int rfl rfl rfl rfl) ?_;refine .ag rfl rfl ?_;refine .nK [1,2,3,7] ?_;exact⟨kq9,Nat.lt_succ_self _,t15,(AG (x7+(1:Int))),rfl,rfl,by rw[hrec8];exact h⟩
  refine .a 1 ?_;refine .eH [1] (H':=[]) (.nil _) ?_;exact⟨x6,rfl,rfl,h⟩
 rintro _ _ ⟨x5,rfl,rfl,h⟩;rw[Lh.eq_1]at h;refine .a 4 ?_;refine .nK [6] ?_;refine .rK [6] ?_;have hr:=Option.some.inj h;subst hr;exact⟨[(AB x5)],⟨rfl,rfl,trivial⟩,rfl⟩
def RD (k:Nat) (p0:AI) (p1:Int):Option Int:=
 Option.bind (α:=Bool) (if p1<(0:Int)then some (true)
 else some (decide ((p0.f2.length:Int)≤p1))) fun b4=>
 if b4=true then some ((-1:Int))
 else if 0≤p1∧p1<(p0.f2.length:Int)then some ((AA p0.f2 p1))
 else none
theorem KU {k:Nat} {p0:AI} {p1:Int} {r:Int} (h:RD k p0 p1=some r):AY Tryz.prog 108 [(Ak p0),(AB p1)] (AB r):=by
 rw[RD.eq_1]at h;refine AY.intro (res:=[.tmp 4]) Tryz.func108 rfl rfl rfl (Nat.le_of_ble_eq_true rfl) ?_;refine .sr ?_;refine .box rfl 2 rfl (by decide) rfl rfl rfl fun n3=>?_;refine .a 4 ?_;obtain⟨b4,q5,h⟩:=ob h;refine .regM [(1,(AB p1)),(2,(.ptr n3 0)),(13,(AD b4))] [(n3,(.mem (Ak p0)))] ?_ ?_
 ·refine .a 3 ?_;rcases oi q5 with⟨c6,q5⟩|⟨c6,q5⟩
  ·refine .a 6 ?_;cases q5;refine .nilE ⟨rfl,rfl⟩ ?_ ?_
   ·exact⟨rfl,rfl,rfl,trivial⟩
   exact(.refl _)
  refine .a 6 ?_;cases q5;refine .nilE ⟨rfl,rfl⟩ ?_ ?_
  ·exact⟨rfl,rfl,rfl,trivial⟩
  exact(.refl _)
 rcases oi h with⟨c7,h⟩|⟨c7,h⟩
 ·refine .a 4 ?_;refine .nS [4] [] ?_;refine .rK [4] ?_;cases h;exact⟨[(AB (-1:Int))],⟨rfl,rfl,trivial⟩,rfl⟩
 refine .a 7 ?_;obtain⟨g8,h⟩:=AC h;refine .a 3 ?_;refine .nS [4] [] ?_;refine .rK [4] ?_;cases h;exact⟨[(AB (AA p0.f2 p1))],⟨rfl,rfl,trivial⟩,rfl⟩
def Yu (k:Nat) (p0:AI) (p1:ByteArray):Option Int:=
 (VI k p0 (0:Int) p1).bind fun t4=>
 (RD k p0 t4).bind fun t5=>
 some (t5)
theorem TJ {k:Nat} {p0:AI} {p1:ByteArray} {r:Int} (h:Yu k p0 p1=some r):AY Tryz.prog 80 [(Ak p0),(AN p1)] (AB r):=by
 rw[Yu.eq_1]at h;refine AY.intro (res:=[.tmp 4]) Tryz.func80 rfl rfl rfl (Nat.le_of_ble_eq_true rfl) ?_;refine .sr ?_;refine .box rfl 2 rfl (by decide) rfl rfl rfl fun n3=>?_;refine .a 3 ?_;refine .regQ (by rfl) (by decide+kernel) ?_;refine .a 3 ?_;obtain⟨t4,et4,h⟩:=ob h;refine .c (.call (args:=[(Ak p0),(AB (0:Int)),(AN p1)]) rfl rfl aA ⟨rfl,rfl,rfl,rfl,rfl,rfl,trivial⟩ rfl (Rv et4)) ?_;obtain⟨t5,et5,h⟩:=ob h;refine .c (.call (args:=[(Ak p0),(AB t4)]) rfl rfl XC ⟨rfl,rfl,rfl,rfl,trivial⟩ rfl (KU et5)) ?_;refine .a 1 ?_;refine .nK [4] ?_;refine .rH [4] (H':=[]) (.nil _) ?_;have hr:=Option.some.inj h;subst hr;exact⟨[(AB t5)],⟨rfl,rfl,trivial⟩,rfl⟩
def Zs (k:Nat) (p0:CN) (p1:(List (ByteArray×Int))):Option Int:=
 (WQ k p0.f0).bind fun t4=>
 if(!t4)=true then some ((8:Int))
 else if(0:Int)<((Ay p1 p0.f0).getD (0:Int))then some ((9:Int))
 else Option.bind (α:=Bool) (if p0.f1<(0:Int)then some (true)
 else some (decide ((2:Int)<p0.f1))) fun b7=>
 if b7=true then some ((1:Int))
 else(YN k p0.f2).bind fun t11=>
 if t11.2≠(0:Int)then some (t11.2)
 else(Yu k t11.1 (ByteArray.mk #[])).bind fun t14=>
 if(0:Int)≤t14 then some ((14:Int))
 else some ((0:Int))
theorem Sg {k:Nat} {p0:CN} {p1:(List (ByteArray×Int))} {r:Int} (h:Zs k p0 p1=some r) {q1:Nat} {T0:Aa}:Aq Tryz.prog 50 [(Es p0),(.mp q1)] ((q1,(.map (Am Value.string AB p1)))::T0) (fun x H'=>x=AB r∧Bd ((q1,(.map (Am Value.string AB p1)))::T0) H'):=by
 rw[Zs.eq_1]at h;refine Aq.intro (res:=[.tmp 4]) Tryz.func50 rfl rfl rfl (Nat.le_of_ble_eq_true rfl) ?_;refine .sr ?_;refine .box rfl 2 rfl (by decide) rfl rfl rfl fun n3=>?_;refine .a 1 ?_;refine .nH [1,2] (H':=((q1,(.map (Am Value.string AB p1)))::(n3,(.mem (Es p0)))::T0)) (.cons 1 rfl (.cons 0 rfl (.refl _))) ?_;refine .a 6 ?_;obtain⟨t4,et4,h⟩:=ob h;refine .callS [(AN p0.f0)] (AD t4) 10 rfl (by decide) bo rfl rfl rfl ⟨rfl,rfl,trivial⟩ (TP et4) ?_;refine .a 3 ?_;rcases oi h with⟨c5,h⟩|⟨c5,h⟩
 ·refine .a 4 ?_;refine .nH [4] (H':=((q1,(.map (Am Value.string AB p1)))::T0)) (.cons 0 rfl (.drop (.refl _))) ?_;refine .rK [4] ?_;cases h;exact⟨[(AB (8:Int))],⟨rfl,rfl,trivial⟩,rfl,(.cons 0 rfl (.refl _))⟩
 refine .a 6 ?_;refine .c (x:=AB ((Ay p1 p0.f0).getD (0:Int))) (.look1 (f:=AB) BO BN (0:Int) 0 rfl rfl rfl rfl Tryz.underlying97 Tryz.underlying9 Ym rfl rfl) ?_;refine .a 3 ?_;rcases oi h with⟨c6,h⟩|⟨c6,h⟩
 ·refine .a 4 ?_;refine .nH [4] (H':=((q1,(.map (Am Value.string AB p1)))::T0)) (.cons 0 rfl (.drop (.refl _))) ?_;refine .rK [4] ?_;cases h;exact⟨[(AB (9:Int))],⟨rfl,rfl,trivial⟩,rfl,(.cons 0 rfl (.refl _))⟩
 refine .a 2 ?_;obtain⟨b7,q8,h⟩:=ob h;refine .regM [(2,(.ptr n3 0)),(18,(AD b7))] ((q1,(.map (Am Value.string AB p1)))::(n3,(.mem (Es p0)))::T0) ?_ ?_
 ·refine .a 4 ?_;rcases oi q8 with⟨c9,q8⟩|⟨c9,q8⟩
  ·refine .a 5 ?_;cases q8;refine .nilE ⟨rfl,rfl⟩ ?_ ?_
   ·exact⟨rfl,rfl,trivial⟩
   exact(.refl _)
  refine .a 5 ?_;cases q8;refine .nilE ⟨rfl,rfl⟩ ?_ ?_
  ·exact⟨rfl,rfl,trivial⟩
  exact(.refl _)
 rcases oi h with⟨c10,h⟩|⟨c10,h⟩
 ·refine .a 4 ?_;refine .nH [4] (H':=((q1,(.map (Am Value.string AB p1)))::T0)) (.cons 0 rfl (.drop (.refl _))) ?_;refine .rK [4] ?_;cases h;exact⟨[(AB (1:Int))],⟨rfl,rfl,trivial⟩,rfl,(.cons 0 rfl (.refl _))⟩
 refine .a 6 ?_;obtain⟨t11,et11,h⟩:=ob h;refine .callS [(AN p0.f2)] (.tup [(Ak t11.1),(AB t11.2)]) 30 rfl (by decide) be rfl rfl rfl ⟨rfl,rfl,trivial⟩ (S0 et11) ?_;refine .a 3 ?_;refine .alloc rfl 5 rfl (by decide) rfl CY BV fun n12=>?_;refine .store 0 rfl rfl rfl rfl rfl rfl (.cast .here rfl) rfl rfl BQ rfl ?_;refine .a 1 ?_;refine .nH [5,6] (H':=((q1,(.map (Am Value.string AB p1)))::(n12,(.mem (Ak t11.1)))::T0)) (.cons 1 rfl (.cons 0 rfl (.drop (.refl _)))) ?_;refine .a 8 ?_;rcases oi h with⟨c13,h⟩|⟨c13,h⟩
 ·refine .a 5 ?_;refine .nH [4] (H':=((q1,(.map (Am Value.string AB p1)))::T0)) (.cons 0 rfl (.drop (.refl _))) ?_;refine .rK [4] ?_;cases h;exact⟨[(AB t11.2)],⟨rfl,rfl,trivial⟩,rfl,(.cons 0 rfl (.refl _))⟩
 refine .a 4 ?_;obtain⟨t14,et14,h⟩:=ob h;refine .callS [(Ak t11.1),(AN (ByteArray.mk #[]))] (AB t14) 39 rfl (by decide) bn rfl rfl rfl ⟨rfl,rfl,rfl,rfl,trivial⟩ (TJ et14) ?_;refine .a 2 ?_;refine .nH [37] (H':=((q1,(.map (Am Value.string AB p1)))::T0)) (.cons 0 rfl (.drop (.refl _))) ?_;rcases oi h with⟨c15,h⟩|⟨c15,h⟩
 ·refine .a 4 ?_;refine .nK [4] ?_;refine .rK [4] ?_;cases h;exact⟨[(AB (14:Int))],⟨rfl,rfl,trivial⟩,rfl,(.cons 0 rfl (.refl _))⟩
 refine .a 5 ?_;refine .nK [4] ?_;refine .rK [4] ?_;cases h;exact⟨[(AB (0:Int))],⟨rfl,rfl,trivial⟩,rfl,(.cons 0 rfl (.refl _))⟩
def Pf (k:Nat) (p0:(List CN)):Option (Int×Int):=
 some ((p0.length:Int),(0:Int))
def Em (k:Nat) (p0:(List CN)):Nat→(List (ByteArray×Int))→Int→Option (Int×Int)
 | 0,_,_=>none
 | j+1,x4,x5=>
   if x5<(p0.length:Int)then if 0≤x5∧x5<(p0.length:Int)then(Zs k (AA p0 x5) x4).bind fun t11=>
   if t11≠(0:Int)then some (x5,t11)
   else(Em k p0 j) (BE x4 ((AA p0 x5).f0) (AG (((Ay x4 ((AA p0 x5).f0)).getD (0:Int))+(1:Int)))) (AG (x5+(1:Int)))
   else none
   else Pf k p0
def ZD (k:Nat) (p0:(List CN)):Option (Int×Int):=
 if(60:Int)<(p0.length:Int)then some ((p0.length:Int),(6:Int))
 else Em k p0 k ([]:List (ByteArray×Int)) (0:Int)
theorem TB {k:Nat} {p0:(List CN)} {r:(Int×Int)} (h:ZD k p0=some r):AY Tryz.prog 22 [(.fz 3 (p0.map Es))] (.tup [(AB r.1),(AB r.2)]):=by
 rw[ZD.eq_1]at h;refine AY.intro (res:=[.tmp 2,.tmp 3]) Tryz.func22 rfl rfl rfl (Nat.le_of_ble_eq_true rfl) ?_;refine .a 12 ?_;rcases oi h with⟨c2,h⟩|⟨c2,h⟩
 ·refine .a 7 ?_;refine .nK [2,3] ?_;refine .rK [2,3] ?_;cases h;exact⟨[(AB (p0.length:Int)),(AB (6:Int))],⟨rfl,rfl,rfl,rfl,trivial⟩,rfl⟩
 refine .a 4 ?_;refine .makeMap rfl 13 rfl (by decide) rfl fun n3=>?_;refine .a 1 ?_;refine .nK [0,4] ?_;refine .seq_mid (fun ρ H=>ρ=[(0,(.fz 3 (p0.map Es)))]∧H=[]∧Pf k p0=some r) ?_ ?_
 ·refine .a 7 ?_;refine .wK [0,4,14,15,16] ?_;refine .loop (fun kq ρ H=>∃ (x4:(List (ByteArray×Int))) (x5:Int),ρ=[(0,(.fz 3 (p0.map Es))),(4,(.mp n3)),(14,(.fz 3 (p0.map Es))),(15,(AB (p0.length:Int))),(16,(AB x5))]∧H=[(n3,(.map (Am Value.string AB x4)))]∧Em k p0 kq x4 x5=some r) k ⟨([]:List (ByteArray×Int)),(0:Int),rfl,rfl,h⟩ ?_;rintro kq7 _ _ ⟨x4,x5,rfl,rfl,h⟩
  cases kq7 with
  | zero=>rw[Em.eq_1]at h;cases h
  | succ kq7=>
  rw[Em.eq_2]at h;generalize hrec6:Em k p0 kq7=rec6 at h;refine .a 5 ?_;rcases oi h with⟨c8,h⟩|⟨c8,h⟩
  ·refine .a 7 ?_;obtain⟨g9,h⟩:=AC h;refine .a 2 ?_;refine .alloc rfl 6 rfl (by decide) rfl RO LJ fun n10=>?_;refine .a 1 ?_;refine .store 0 rfl rfl rfl rfl rfl rfl (.cast .here rfl) rfl rfl Om rfl ?_;refine .nS [0,4,5,6,14,15,16] [1,0] ?_;refine .a 5 ?_;obtain⟨t11,et11,h⟩:=ob h;refine .callH [(Es (AA p0 x5)),(.mp n3)] [(n3,(.map (Am Value.string AB x4))),(n10,(.mem (Es (AA p0 x5))))] _ rfl rfl rfl 23 rfl (by decide) bN ⟨rfl,rfl,rfl,rfl,trivial⟩ (.cons 0 rfl (.refl _)) (Sg et11) ?_;rintro _ _ ⟨rfl,hs12⟩;refine .wH [0,4,5,6,14,15,16,21,22,23] hs12 ?_;refine .a 7 ?_;rcases oi h with⟨c13,h⟩|⟨c13,h⟩
   ·refine .a 7 ?_;refine .nS [2,3] [] ?_;refine .rK [2,3] ?_;have hr:=Option.some.inj h;subst hr;exact⟨[(AB x5),(AB t11)],⟨rfl,rfl,rfl,rfl,trivial⟩,rfl⟩
   refine .a 6 ?_;refine .c (x:=AB ((Ay x4 ((AA p0 x5).f0)).getD (0:Int))) (.look1 (f:=AB) BO BN (0:Int) 0 rfl rfl rfl rfl Tryz.underlying97 Tryz.underlying9 Ym rfl rfl) ?_;refine .a 1 ?_;refine .mapPut (f:=AB) BO BN 0 rfl rfl rfl rfl rfl rfl rfl rfl Tryz.underlying97 Tryz.underlying9 ?_;refine .nS [0,4,14,15,16] [0] ?_;refine .a 3 ?_;refine .nK [0,4,14,15,16] ?_;exact⟨kq7,Nat.lt_succ_self _,(BE x4 ((AA p0 x5).f0) (AG (((Ay x4 ((AA p0 x5).f0)).getD (0:Int))+(1:Int)))),(AG (x5+(1:Int))),rfl,rfl,by rw[hrec6];exact h⟩
  refine .a 1 ?_;refine .eH [0] (H':=[]) (.nil _) ?_;exact⟨rfl,rfl,h⟩
 rintro _ _ ⟨rfl,rfl,h⟩;rw[Pf.eq_1]at h;refine .a 6 ?_;refine .nK [2,3] ?_;refine .rK [2,3] ?_;cases h;exact⟨[(AB (p0.length:Int)),(AB (0:Int))],⟨rfl,rfl,rfl,rfl,trivial⟩,rfl⟩
def Mn (k:Nat) (x4:Int) (x6:(List AR)) (x8:(List Int)):Option (Ar×(List Int)):=
 some ((Ar.mk x4 x6 (0:Int) (0:Int)),x8)
def LY (k:Nat) (rec15:(Int→(List AR)→(List Int)→Int→Option (Ar×(List Int)))) (p0:(List Ar)) (x9:Int) (x13:(List Int)) (x14:Int) (x19:(List AR)):Option (Ar×(List Int)):=
 rec15 (AG (x9+((AA p0 x14).f0))) x19 (x13++([(AG (((AA p0 x14).f3)+x9))]:List Int)) (AG (x14+(1:Int)))
def JJ (k:Nat) (rec15:(Int→(List AR)→(List Int)→Int→Option (Ar×(List Int)))) (p0:(List Ar)) (x9:Int) (x13:(List Int)) (x14:Int) (x27:(List AR)):Option (Ar×(List Int)):=
 if(x13++([(AG (((AA p0 x14).f3)+x9))]:List Int)).length*8≤140737488355328 then LY k rec15 p0 x9 x13 x14 x27
 else none
def FQ (k:Nat) (rec15:(Int→(List AR)→(List Int)→Int→Option (Ar×(List Int)))) (p0:(List Ar)) (x9:Int) (x13:(List Int)) (x14:Int):Nat→(List AR)→Int→Option (Ar×(List Int))
 | 0,_,_=>none
 | j+1,x32,x33=>
   if x33<(((AA p0 x14).f1).length:Int)then if 0≤x33∧x33<(((AA p0 x14).f1).length:Int)then if(x32++([(AR.mk (AG (((AA ((AA p0 x14).f1) x33).f0)+x9)) (AG (((AA ((AA p0 x14).f1) x33).f1)+x9)) ((AA ((AA p0 x14).f1) x33).f2) ((AA ((AA p0 x14).f1) x33).f3))]:List AR)).length*56≤140737488355328 then(FQ k rec15 p0 x9 x13 x14 j) (x32++([(AR.mk (AG (((AA ((AA p0 x14).f1) x33).f0)+x9)) (AG (((AA ((AA p0 x14).f1) x33).f1)+x9)) ((AA ((AA p0 x14).f1) x33).f2) ((AA ((AA p0 x14).f1) x33).f3))]:List AR)) (AG (x33+(1:Int)))
   else none
   else none
   else JJ k rec15 p0 x9 x13 x14 x32
def Eg (k:Nat) (p0:(List Ar)):Nat→Int→(List AR)→(List Int)→Int→Option (Ar×(List Int))
 | 0,_,_,_,_=>none
 | j+1,x9,x11,x13,x14=>
   if x14<(p0.length:Int)then if 0≤x14∧x14<(p0.length:Int)then if(x11++([(AR.mk (0:Int) (AG (((AA p0 x14).f2)+x9)) (Vector.replicate 4 (0:Int)) true)]:List AR)).length*56≤140737488355328 then FQ k (Eg k p0 j) p0 x9 x13 x14 k (x11++([(AR.mk (0:Int) (AG (((AA p0 x14).f2)+x9)) (Vector.replicate 4 (0:Int)) true)]:List AR)) (0:Int)
   else none
   else none
   else Mn k x9 x11 x13
def am (k:Nat) (p0:(List Ar)):Option (Ar×(List Int)):=
 Eg k p0 k (1:Int) ([]:List AR) ([]:List Int) (0:Int)
theorem ST {k:Nat} {p0:(List Ar)} {r:(Ar×(List Int))} (h:am k p0=some r):AY Tryz.prog 38 [(.fz 4 (p0.map BK))] (.tup [(BK r.1),(.fz 1 (r.2.map AB))]):=by
 rw[am.eq_1]at h;refine AY.intro (res:=[.cell 2 80,.tmp 3]) Tryz.func38 rfl rfl rfl (Nat.le_of_ble_eq_true rfl) ?_;refine .sr ?_;refine .alloc rfl 2 rfl (by decide) rfl Jd Gl fun n2=>?_;refine .a 4 ?_;refine .c (x:=(.st [(1,(AB (1:Int))),(1,(.fl (.slice none 0 0))),(1,(AB (0:Int))),(1,(AB (0:Int)))])) (.build (qs:=[(0,(AB (1:Int)))]) rfl ⟨rfl,rfl,rfl,trivial⟩ Tryz.underlying80 rfl Jd Gl (.cons rfl rfl rfl rfl (.cast (.fld0 .here) rfl) .nil) rfl) ?_;refine .alloc rfl 4 rfl (by decide) rfl Jd Gl fun n3=>?_;refine .store 0 rfl rfl rfl rfl rfl rfl (.cast .here rfl) rfl rfl G4 rfl ?_;refine .nS [0,2,4] [1,0] ?_;refine .a 3 ?_;refine .nK [0,2,4,5] ?_;refine .seq_mid (fun ρ H=>∃ (n5:Nat) (n7:Nat) (x4:Int) (x6:(List AR)) (x8:(List Int)),ρ=[(2,(.ptr n2 0)),(4,(.ptr n3 0)),(5,(.own n7 0 x8.length))]∧H=[(IV n2 (0:Int)),(n3,(Yr x4 n5 x6.length (0:Int))),(Z8 n5 x6),(n7,(Z3 x8))]∧Mn k x4 x6 x8=some r) ?_ ?_
 ·refine .a 7 ?_;refine .nilOwn 5 1 rfl fun n42=>?_;refine .nilOwnFld 2 7 (fun n43=>(.st [(1,(AB (1:Int))),(1,(.own n43 0 0)),(1,(AB (0:Int))),(1,(AB (0:Int)))])) rfl (fun _=>(.cast (.fldS (.fld0 .here)) rfl)) (fun _=>rfl) (fun _=>rfl) fun n43=>?_;refine .wH [2,4,5,12,13,14] (H':=[(IV n2 (0:Int)),(n3,(Yr (1:Int) n43 ([]:List AR).length (0:Int))),(Z8 n43 ([]:List AR)),(n42,(Z3 ([]:List Int)))]) (.cons 2 rfl (.cons 2 rfl (.cons 0 rfl (.cons 0 rfl (.nil _))))) ?_;refine .loop (fun kq ρ H=>∃ (n10:Nat) (n12:Nat) (x9:Int) (x11:(List AR)) (x13:(List Int)) (x14:Int),ρ=[(2,(.ptr n2 0)),(4,(.ptr n3 0)),(5,(.own n12 0 x13.length)),(12,(.fz 4 (p0.map BK))),(13,(AB (p0.length:Int))),(14,(AB x14))]∧H=[(IV n2 (0:Int)),(n3,(Yr x9 n10 x11.length (0:Int))),(Z8 n10 x11),(n12,(Z3 x13))]∧Eg k p0 kq x9 x11 x13 x14=some r) k ⟨n43,n42,(1:Int),([]:List AR),([]:List Int),(0:Int),rfl,rfl,h⟩ ?_;rintro kq16 _ _ ⟨n10,n12,x9,x11,x13,x14,rfl,rfl,h⟩
  cases kq16 with
  | zero=>rw[Eg.eq_1]at h;cases h
  | succ kq16=>
  rw[Eg.eq_2]at h;generalize hrec15:Eg k p0 kq16=rec15 at h;refine .a 5 ?_;rcases oi h with⟨c17,h⟩|⟨c17,h⟩
  ·refine .a 1 ?_;refine .sK [2,4,5,12,13,14] ?_;refine .seq_mid (fun ρ H=>∃ (n18:Nat) (n20:Nat) (x19:(List AR)),ρ=[(2,(.ptr n2 0)),(4,(.ptr n3 0)),(5,(BL n20 (x13++([(AG (((AA p0 x14).f3)+x9))]:List Int)).length)),(12,(.fz 4 (p0.map BK))),(13,(AB (p0.length:Int))),(14,(AB x14))]∧H=[(IV n2 (0:Int)),(n3,(Yr (AG (x9+((AA p0 x14).f0))) n18 x19.length (0:Int))),(Z8 n18 x19),(n20,(Z3 (x13++([(AG (((AA p0 x14).f3)+x9))]:List Int))))]∧LY k rec15 p0 x9 x13 x14 x19=some r) ?_ ?_
   ·refine .a 3 ?_;obtain⟨g21,h⟩:=AC h;refine .a 2 ?_;refine .alloc rfl 7 rfl (by decide) rfl Jd Gl fun n22=>?_;refine .store 0 rfl rfl rfl rfl rfl rfl (.cast .here rfl) rfl rfl G4 rfl ?_;refine .nS [2,4,5,7,12,13,14] [1,2,3,4,0] ?_;refine .a 14 ?_;refine .store 1 rfl rfl rfl rfl rfl rfl (.cast (.fld0 .here) rfl) rfl rfl Bb rfl ?_;refine .a 9 ?_;refine .c (x:=(YS (0:Int) (AG (((AA p0 x14).f2)+x9)) ((Vector.replicate 4 (0:Int)).toList.map Ab) true)) (.build (qs:=[(1,(AB (AG (((AA p0 x14).f2)+x9)))),(3,(AD true))]) rfl ⟨rfl,rfl,rfl,rfl,rfl,rfl,trivial⟩ Tryz.underlying127 rfl DP DH (.cons rfl rfl rfl rfl (.cast (.fldS (.fld0 .here)) rfl) (.cons rfl rfl rfl rfl (.cast (.fldS (.fldS (.fldS (.fld0 .here)))) rfl) .nil)) rfl) ?_;refine .lit (Z:=(YS (0:Int) (0:Int) ((Vector.replicate 4 (0:Int)).toList.map Ab) false)) (xs:=(([(AR.mk (0:Int) (AG (((AA p0 x14).f2)+x9)) (Vector.replicate 4 (0:Int)) true)]:List AR).map BD)) (qs:=[(0,(BD (AR.mk (0:Int) (AG (((AA p0 x14).f2)+x9)) (Vector.replicate 4 (0:Int)) true)))]) rfl 33 rfl (by decide) rfl ⟨rfl,rfl,rfl,trivial⟩ Tryz.underlying78 EG DP DH rfl (by decide) (An (z:=7) [(BD (AR.mk (0:Int) (AG (((AA p0 x14).f2)+x9)) (Vector.replicate 4 (0:Int)) true))] rfl ⟨⟨rfl,rfl⟩,trivial⟩) rfl fun n23=>?_;obtain⟨g25,h⟩:=AC h
    refine .appendL (l:=x11) (m:=([(AR.mk (0:Int) (AG (((AA p0 x14).f2)+x9)) (Vector.replicate 4 (0:Int)) true)]:List AR)) 3 34 rfl (by decide) rfl rfl rfl rfl rfl (CS.ownL (f:=BD) (l:=([(AR.mk (0:Int) (AG (((AA p0 x14).f2)+x9)) (Vector.replicate 4 (0:Int)) true)]:List AR)) 0 rfl) Tryz.underlying78 Tryz.underlying78 EG QQ DP rfl g25 (by decide) fun n24=>?_;refine .a 1 ?_;refine .store 2 rfl rfl rfl rfl rfl rfl (.cast (.fldS (.fld0 .here)) rfl) rfl rfl Ty rfl ?_;refine .nS [2,4,5,7,8,12,13,14] [1,2,3,4,5] ?_;refine .seq_mid (fun ρ H=>∃ (n26:Nat) (x27:(List AR)),ρ=[(2,(.ptr n2 0)),(4,(.ptr n3 0)),(5,(.own n12 0 x13.length)),(7,(.ptr n22 0)),(8,(AB x9)),(12,(.fz 4 (p0.map BK))),(13,(AB (p0.length:Int))),(14,(AB x14))]∧H=[(IV n2 (0:Int)),(n3,(Yr (AG (x9+((AA p0 x14).f0))) n26 x27.length (0:Int))),(Z8 n26 x27),(n12,(Z3 x13)),(n22,(.mem (BK (AA p0 x14))))]∧JJ k rec15 p0 x9 x13 x14 x27=some r) ?_ ?_
    ·refine .a 8 ?_;refine .wK [2,4,5,7,8,12,13,14,37,38,39] ?_;refine .loop (fun kq ρ H=>∃ (n31:Nat) (x32:(List AR)) (x33:Int),ρ=[(2,(.ptr n2 0)),(4,(.ptr n3 0)),(5,(.own n12 0 x13.length)),(7,(.ptr n22 0)),(8,(AB x9)),(12,(.fz 4 (p0.map BK))),(13,(AB (p0.length:Int))),(14,(AB x14)),(37,(.fz 7 (((AA p0 x14).f1).map BD))),(38,(AB (((AA p0 x14).f1).length:Int))),(39,(AB x33))]∧H=[(IV n2 (0:Int)),(n3,(Yr (AG (x9+((AA p0 x14).f0))) n31 x32.length (0:Int))),(Z8 n31 x32),(n12,(Z3 x13)),(n22,(.mem (BK (AA p0 x14))))]∧FQ k rec15 p0 x9 x13 x14 kq x32 x33=some r) k ⟨n24,(x11++([(AR.mk (0:Int) (AG (((AA p0 x14).f2)+x9)) (Vector.replicate 4 (0:Int)) true)]:List AR)),(0:Int),rfl,rfl,h⟩ ?_;rintro kq35 _ _ ⟨n31,x32,x33,rfl,rfl,h⟩
     cases kq35 with
     | zero=>rw[FQ.eq_1]at h;cases h
     | succ kq35=>
     rw[FQ.eq_2]at h;generalize hrec34:FQ k rec15 p0 x9 x13 x14 kq35=rec34 at h;refine .a 5 ?_;rcases oi h with⟨c36,h⟩|⟨c36,h⟩
     ·refine .a 6 ?_;obtain⟨g37,h⟩:=AC h;refine .a 2 ?_;refine .alloc rfl 10 rfl (by decide) rfl DP DH fun n38=>?_;refine .store 0 rfl rfl rfl rfl rfl rfl (.cast .here rfl) rfl rfl EG rfl ?_;refine .nS [2,4,5,7,8,10,12,13,14,37,38,39] [1,2,3,4,5,0] ?_;refine .a 7 ?_;refine .store 5 rfl rfl rfl rfl rfl rfl (.cast (.fld0 .here) rfl) rfl rfl Bb rfl ?_;refine .a 8 ?_;refine .store 5 rfl rfl rfl rfl rfl rfl (.cast (.fldS (.fld0 .here)) rfl) rfl rfl Bb rfl ?_;refine .a 5 ?_;refine .lit (Z:=(YS (0:Int) (0:Int) ((Vector.replicate 4 (0:Int)).toList.map Ab) false)) (xs:=(([(AR.mk (AG (((AA ((AA p0 x14).f1) x33).f0)+x9)) (AG (((AA ((AA p0 x14).f1) x33).f1)+x9)) ((AA ((AA p0 x14).f1) x33).f2) ((AA ((AA p0 x14).f1) x33).f3))]:List AR).map BD)) (qs:=[(0,(BD (AR.mk (AG (((AA ((AA p0 x14).f1) x33).f0)+x9)) (AG (((AA ((AA p0 x14).f1) x33).f1)+x9)) ((AA ((AA p0 x14).f1) x33).f2) ((AA ((AA p0 x14).f1) x33).f3))))]) rfl 56 rfl (by decide) rfl ⟨rfl,rfl,rfl,trivial⟩ Tryz.underlying78 EG DP DH rfl (by decide) (An (z:=7) [(BD (AR.mk (AG (((AA ((AA p0 x14).f1) x33).f0)+x9)) (AG (((AA ((AA p0 x14).f1) x33).f1)+x9)) ((AA ((AA p0 x14).f1) x33).f2) ((AA ((AA p0 x14).f1) x33).f3)))] rfl ⟨⟨rfl,rfl⟩,trivial⟩) rfl fun n39=>?_;obtain⟨g41,h⟩:=AC h
      refine .appendL (l:=x32) (m:=([(AR.mk (AG (((AA ((AA p0 x14).f1) x33).f0)+x9)) (AG (((AA ((AA p0 x14).f1) x33).f1)+x9)) ((AA ((AA p0 x14).f1) x33).f2) ((AA ((AA p0 x14).f1) x33).f3))]:List AR)) 3 57 rfl (by decide) rfl rfl rfl rfl rfl (CS.ownL (f:=BD) (l:=([(AR.mk (AG (((AA ((AA p0 x14).f1) x33).f0)+x9)) (AG (((AA ((AA p0 x14).f1) x33).f1)+x9)) ((AA ((AA p0 x14).f1) x33).f2) ((AA ((AA p0 x14).f1) x33).f3))]:List AR)) 0 rfl) Tryz.underlying78 Tryz.underlying78 EG QQ DP rfl g41 (by decide) fun n40=>?_;refine .a 1 ?_;refine .store 2 rfl rfl rfl rfl rfl rfl (.cast (.fldS (.fld0 .here)) rfl) rfl rfl Ty rfl ?_;refine .nS [2,4,5,7,8,12,13,14,37,38,39] [1,2,3,4,5] ?_;refine .a 3 ?_;refine .nK [2,4,5,7,8,12,13,14,37,38,39] ?_;exact⟨kq35,Nat.lt_succ_self _,n40,(x32++([(AR.mk (AG (((AA ((AA p0 x14).f1) x33).f0)+x9)) (AG (((AA ((AA p0 x14).f1) x33).f1)+x9)) ((AA ((AA p0 x14).f1) x33).f2) ((AA ((AA p0 x14).f1) x33).f3))]:List AR)),(AG (x33+(1:Int))),rfl,rfl,by rw[hrec34];exact h⟩
     refine .a 1 ?_;refine .eK [2,4,5,7,8,12,13,14] ?_;exact⟨n31,x32,rfl,rfl,h⟩
    rintro _ _ ⟨n26,x27,rfl,rfl,h⟩;rw[JJ.eq_1]at h;refine .a 6 ?_;refine .lit (Z:=(AB (0:Int))) (xs:=(([(AG (((AA p0 x14).f3)+x9))]:List Int).map AB)) (qs:=[(0,(AB (AG (((AA p0 x14).f3)+x9))))]) rfl 65 rfl (by decide) rfl ⟨rfl,rfl,rfl,trivial⟩ Tryz.underlying40 Bb Fj DT rfl (by decide) (An (z:=1) [(AB (AG (((AA p0 x14).f3)+x9)))] rfl ⟨⟨rfl,rfl⟩,trivial⟩) rfl fun n28=>?_;obtain⟨g30,h⟩:=AC h;refine .appendL (l:=x13) (m:=([(AG (((AA p0 x14).f3)+x9))]:List Int)) 4 66 rfl (by decide) rfl rfl rfl rfl rfl (CS.ownL (f:=AB) (l:=([(AG (((AA p0 x14).f3)+x9))]:List Int)) 0 rfl) Tryz.underlying40 Tryz.underlying40 Bb KP Fj rfl g30 (by decide) fun n29=>?_;refine .a 1 ?_;refine .nS [2,4,5,12,13,14] [1,2,3,4] ?_;exact⟨n26,n29,x27,rfl,rfl,h⟩
   rintro _ _ ⟨n18,n20,x19,rfl,rfl,h⟩;rw[LY.eq_1]at h;refine .a 3 ?_;refine .nK [2,4,5,12,13,14] ?_;exact⟨kq16,Nat.lt_succ_self _,n18,n20,(AG (x9+((AA p0 x14).f0))),x19,(x13++([(AG (((AA p0 x14).f3)+x9))]:List Int)),(AG (x14+(1:Int))),rfl,rfl,by rw[hrec15];exact h⟩
  refine .a 1 ?_;refine .eK [2,4,5] ?_;exact⟨n10,n12,x9,x11,x13,rfl,rfl,h⟩
 rintro _ _ ⟨n5,n7,x4,x6,x8,rfl,rfl,h⟩;rw[Mn.eq_1]at h;refine .sr ?_;refine .freezeFld (X':=(aN x4 x6 (0:Int) (0:Int))) (els':=(x6.map BD)) 2 1 rfl rfl (.cast (.fldS (.fld0 .here)) rfl) (by simp) (by rw[Be]) rfl rfl (by decide) ?_;refine .a 2 ?_;refine .store 0 rfl rfl rfl rfl rfl rfl (.cast .here rfl) rfl rfl G4 rfl ?_;refine .a 1 ?_;refine .nS [2,3] [0,2] ?_;refine .freezeS 1 [(3,(.fz 1 (x8.map AB)))] rfl ⟨Aj rfl,trivial⟩ ?_;refine .rK [2,3] ?_;have hr:=Option.some.inj h;subst hr;exact⟨[(BK (Ar.mk x4 x6 (0:Int) (0:Int))),(.fz 1 (x8.map AB))],⟨⟨_,0,rfl,rfl,Sz,G4⟩,rfl,rfl,trivial⟩,rfl⟩
def JA (k:Nat) (x3:Int):Option Int:=
 some (x3)
def Cj (k:Nat) (p0:(Vector Int 256)):Nat→Int→Int→Option Int
 | 0,_,_=>none
 | j+1,x4,x5=>
   if x5<(256:Int)then if 0≤x5∧x5<(256:Int)then(Cj k p0 j) (max x4 (AG ((AG (AZ p0 x5))+(1:Int)))) (AG (x5+(1:Int)))
   else none
   else JA k x4
def Wk (k:Nat) (p0:(Vector Int 256)):Option Int:=
 Cj k p0 k (0:Int) (0:Int)
theorem J2 {k:Nat} {p0:(Vector Int 256)} {r:Int} (h:Wk k p0=some r):AY Tryz.prog 95 [(.ar 1 (p0.toList.map AK))] (AB r):=by
 rw[Wk.eq_1]at h;refine AY.intro (res:=[.tmp 2]) Tryz.func95 rfl rfl rfl (Nat.le_of_ble_eq_true rfl) ?_;refine .sr ?_;refine .box rfl 1 rfl (by decide) rfl rfl rfl fun n2=>?_;refine .a 5 ?_;refine .nK [1,3] ?_;refine .seq_mid (fun ρ H=>∃ (x3:Int),ρ=[(3,(AB x3))]∧H=[]∧JA k x3=some r) ?_ ?_
 ·refine .a 4 ?_;refine .nS [3,6,7] [] ?_;refine .a 1 ?_;refine .wK [3,6,7] ?_;refine .loop (fun kq ρ H=>∃ (x4:Int) (x5:Int),ρ=[(3,(AB x4)),(6,(.ar 1 (p0.toList.map AK))),(7,(AB x5))]∧H=[]∧Cj k p0 kq x4 x5=some r) k ⟨(0:Int),(0:Int),rfl,rfl,h⟩ ?_;rintro kq7 _ _ ⟨x4,x5,rfl,rfl,h⟩
  cases kq7 with
  | zero=>rw[Cj.eq_1]at h;cases h
  | succ kq7=>
  rw[Cj.eq_2]at h;generalize hrec6:Cj k p0 kq7=rec6 at h;refine .a 5 ?_;rcases oi h with⟨c8,h⟩|⟨c8,h⟩
  ·refine .a 6 ?_;obtain⟨g9,h⟩:=AC h;refine .c (x:=AK (AZ p0 x5)) (.idxVv (f:=AK) rfl rfl rfl g9 Tryz.underlying38 Ew Ol rfl) ?_;refine .a 7 ?_;refine .c (x:=AB (max x4 (AG ((AG (AZ p0 x5))+(1:Int))))) (.max2 rfl rfl rfl) ?_;refine .a 5 ?_;refine .nK [3,6,7] ?_;exact⟨kq7,Nat.lt_succ_self _,(max x4 (AG ((AG (AZ p0 x5))+(1:Int)))),(AG (x5+(1:Int))),rfl,rfl,by rw[hrec6];exact h⟩
  refine .a 1 ?_;refine .eK [3] ?_;exact⟨x4,rfl,rfl,h⟩
 rintro _ _ ⟨x3,rfl,rfl,h⟩;rw[JA.eq_1]at h;refine .a 4 ?_;refine .nK [2] ?_;refine .rK [2] ?_;have hr:=Option.some.inj h;subst hr;exact⟨[(AB x3)],⟨rfl,rfl,trivial⟩,rfl⟩
def Ou (k:Nat):Option Bool:=
 some (true)
def FF (k:Nat) (x6:(List Bool)):Nat→Int→Option Bool
 | 0,_=>none
 | j+1,x7=>
   if x7<(x6.length:Int)then if 0≤x7∧x7<(x6.length:Int)then if(!(AA x6 x7))=true then some (false)
   else(FF k x6 j) (AG (x7+(1:Int)))
   else none
   else Ou k
def JN (k:Nat) (x6:(List Bool)):Option Bool:=
 FF k x6 k (0:Int)
def E6 (k:Nat) (p0:(Vector Int 256)):Nat→(List Bool)→Int→Option Bool
 | 0,_,_=>none
 | j+1,x13,x14=>
   if x14<(256:Int)then if 0≤x14∧x14<(256:Int)then if 0≤(AZ p0 x14)∧(AZ p0 x14)<(x13.length:Int)then(E6 k p0 j) (AU x13 (AZ p0 x14) true) (AG (x14+(1:Int)))
   else none
   else none
   else JN k x13
def Zh (k:Nat) (p0:(Vector Int 256)) (p1:Int):Option Bool:=
 if 0≤p1∧p1*(1:Int)≤140737488355328∧p1≤9223372036854775807 then E6 k p0 k (List.replicate p1.toNat false) (0:Int)
 else none
theorem UX {k:Nat} {p0:(Vector Int 256)} {p1:Int} {r:Bool} (h:Zh k p0 p1=some r):AY Tryz.prog 96 [(.ar 1 (p0.toList.map AK)),(AB p1)] (AD r):=by
 rw[Zh.eq_1]at h;refine AY.intro (res:=[.tmp 4]) Tryz.func96 rfl rfl rfl (Nat.le_of_ble_eq_true rfl) ?_;refine .sr ?_;refine .box rfl 2 rfl (by decide) rfl rfl rfl fun n3=>?_;refine .a 5 ?_;obtain⟨g5,h⟩:=AC h;refine .makeL (f:=AD) false rfl 11 rfl (by decide) rfl rfl rfl Tryz.underlying95 Bw KI G3 D9 rfl g5 fun n4=>?_;refine .a 1 ?_;refine .nS [2,5] [1,0] ?_;refine .seq_mid (fun ρ H=>∃ (x6:(List Bool)),ρ=[(5,(.own n4 0 x6.length))]∧H=[(Z9 n4 x6)]∧JN k x6=some r) ?_ ?_
 ·refine .a 4 ?_;refine .nS [5,12,13] [1] ?_;refine .a 1 ?_;refine .wK [5,12,13] ?_;refine .loop (fun kq ρ H=>∃ (x13:(List Bool)) (x14:Int),ρ=[(5,(.own n4 0 x13.length)),(12,(.ar 1 (p0.toList.map AK))),(13,(AB x14))]∧H=[(Z9 n4 x13)]∧E6 k p0 kq x13 x14=some r) k ⟨(List.replicate p1.toNat false),(0:Int),rfl,rfl,h⟩ ?_;rintro kq16 _ _ ⟨x13,x14,rfl,rfl,h⟩
  cases kq16 with
  | zero=>rw[E6.eq_1]at h;cases h
  | succ kq16=>
  rw[E6.eq_2]at h;generalize hrec15:E6 k p0 kq16=rec15 at h;refine .a 5 ?_;rcases oi h with⟨c17,h⟩|⟨c17,h⟩
  ·refine .a 6 ?_;obtain⟨g18,h⟩:=AC h;refine .c (x:=AK (AZ p0 x14)) (.idxVv (f:=AK) rfl rfl rfl g18 Tryz.underlying38 Ew Ol rfl) ?_;refine .a 5 ?_;obtain⟨g19,h⟩:=AC h;refine .a 1 ?_;refine .store 0 rfl rfl rfl rfl rfl rfl (.cast (.lidx (AZ p0 x14) true g19.1 g19.2 .here) (by omega)) rfl rfl Bw rfl ?_;refine .coe 5 (y':=(BL n4 (AU x13 (AZ p0 x14) true).length)) rfl (fun _ _ h=>Ad h) ?_;refine .coe 16 (y':=(BL n4 (AU x13 (AZ p0 x14) true).length)) rfl (fun _ _ h=>Ad h) ?_;refine .a 4 ?_;refine .nK [5,12,13] ?_;exact⟨kq16,Nat.lt_succ_self _,(AU x13 (AZ p0 x14) true),(AG (x14+(1:Int))),rfl,rfl,by rw[hrec15];exact h⟩
  refine .a 1 ?_;refine .eK [5] ?_;exact⟨x13,rfl,rfl,h⟩
 rintro _ _ ⟨x6,rfl,rfl,h⟩;rw[JN.eq_1]at h;refine .seq_mid (fun ρ H=>ρ=[]∧H=[]∧Ou k=some r) ?_ ?_
 ·refine .a 7 ?_;refine .wK [20,21,22] ?_;refine .loop (fun kq ρ H=>∃ (x7:Int),ρ=[(20,(.own n4 0 x6.length)),(21,(AB (x6.length:Int))),(22,(AB x7))]∧H=[(Z9 n4 x6)]∧FF k x6 kq x7=some r) k ⟨(0:Int),rfl,rfl,h⟩ ?_;rintro kq9 _ _ ⟨x7,rfl,rfl,h⟩
  cases kq9 with
  | zero=>rw[FF.eq_1]at h;cases h
  | succ kq9=>
  rw[FF.eq_2]at h;generalize hrec8:FF k x6 kq9=rec8 at h;refine .a 5 ?_;rcases oi h with⟨c10,h⟩|⟨c10,h⟩
  ·refine .a 6 ?_;obtain⟨g11,h⟩:=AC h;refine .c (.idxO 0 rfl rfl rfl rfl g11 Tryz.underlying95 Bw) ?_;refine .c (.load 0 rfl rfl rfl (.cast (.lidx x7 g11.1 g11.2 .here) (by omega)) TF Bw) ?_;refine .ag rfl rfl ?_;refine .nK [9,20,21,22] ?_;refine .sr ?_;refine .mv rfl rfl ?_;refine .c (.not rfl rfl) ?_;refine .nK [20,21,22,27] ?_;rcases oi h with⟨c12,h⟩|⟨c12,h⟩
   ·refine .a 4 ?_;refine .nS [4] [] ?_;refine .rK [4] ?_;have hr:=Option.some.inj h;subst hr;exact⟨[(AD false)],⟨rfl,rfl,trivial⟩,rfl⟩
   refine .a 5 ?_;refine .nK [20,21,22] ?_;exact⟨kq9,Nat.lt_succ_self _,(AG (x7+(1:Int))),rfl,rfl,by rw[hrec8];exact h⟩
  refine .a 1 ?_;refine .eH [] (H':=[]) (.nil _) ?_;exact⟨rfl,rfl,h⟩
 rintro _ _ ⟨rfl,rfl,h⟩;rw[Ou.eq_1]at h;refine .a 3 ?_;refine .nK [4] ?_;refine .rK [4] ?_;have hr:=Option.some.inj h;subst hr;exact⟨[(AD true)],⟨rfl,rfl,trivial⟩,rfl⟩
def PE (k:Nat):Option Bool:=
 some (true)
def JD (k:Nat) (rec12:(Int→Option Bool)) (x11:Int):Option Bool:=
 rec12 (AG (x11+(1:Int)))
def Fc (k:Nat) (rec12:(Int→Option Bool)) (p0:AI) (x11:Int):Nat→Int→Option Bool
 | 0,_=>none
 | j+1,x23=>
   if x23<((AA p0.f1 x11).length:Int)then if 0≤x23∧x23<((AA p0.f1 x11).length:Int)then Option.bind (α:=Bool) (if(AA (AA p0.f1 x11) x23)<(-1:Int)then some (true)
   else some (decide ((p0.f1.length:Int)≤(AA (AA p0.f1 x11) x23)))) fun b28=>
   if b28=true then some (false)
   else(Fc k rec12 p0 x11 j) (AG (x23+(1:Int)))
   else none
   else JD k rec12 x11
def ET (k:Nat) (p0:AI) (t8:Int):Nat→Int→Option Bool
 | 0,_=>none
 | j+1,x11=>
   if x11<(p0.f1.length:Int)then if 0≤x11∧x11<(p0.f1.length:Int)then Option.bind (α:=Bool) (if((AA p0.f1 x11).length:Int)≠t8 then some (true)
   else if 0≤x11∧x11<(p0.f2.length:Int)then if(AA p0.f2 x11)<(-1:Int)then some (true)
   else if 0≤x11∧x11<(p0.f2.length:Int)then some (decide ((32768:Int)≤(AA p0.f2 x11)))
   else none
   else none) fun b16=>
   if b16=true then some (false)
   else Fc k (ET k p0 t8 j) p0 x11 k (0:Int)
   else none
   else PE k
def R6 (k:Nat) (p0:AI):Option Bool:=
 Option.bind (α:=Bool) (if(p0.f1.length:Int)=(0:Int)then some (true)
 else if(32768:Int)<(p0.f1.length:Int)then some (true)
 else some (decide ((p0.f2.length:Int)≠(p0.f1.length:Int)))) fun b3=>
 if b3=true then some (false)
 else(Wk k p0.f0).bind fun t8=>
 (Zh k p0.f0 t8).bind fun t9=>
 if(!t9)=true then some (false)
 else ET k p0 t8 k (0:Int)
theorem NR {k:Nat} {p0:AI} {r:Bool} (h:R6 k p0=some r):AY Tryz.prog 72 [(Ak p0)] (AD r):=by
 rw[R6.eq_1]at h;refine AY.intro (res:=[.tmp 2]) Tryz.func72 rfl rfl rfl (Nat.le_of_ble_eq_true rfl) ?_;refine .sr ?_;refine .box rfl 1 rfl (by decide) rfl rfl rfl fun n2=>?_;refine .a 11 ?_;obtain⟨b3,q4,h⟩:=ob h;refine .regM [(1,(.ptr n2 0)),(3,(AB (p0.f1.length:Int))),(24,(AD b3))] [(n2,(.mem (Ak p0)))] ?_ ?_
 ·refine .a 3 ?_;rcases oi q4 with⟨c5,q4⟩|⟨c5,q4⟩
  ·refine .a 10 ?_;cases q4;refine .nilE ⟨rfl,rfl⟩ ?_ ?_
   ·exact⟨rfl,rfl,rfl,trivial⟩
   exact(.refl _)
  refine .a 4 ?_;rcases oi q4 with⟨c6,q4⟩|⟨c6,q4⟩
  ·refine .a 6 ?_;cases q4;refine .nilE ⟨rfl,rfl⟩ ?_ ?_
   ·exact⟨rfl,rfl,rfl,trivial⟩
   exact(.refl _)
  refine .a 6 ?_;cases q4;refine .nilE ⟨rfl,rfl⟩ ?_ ?_
  ·exact⟨rfl,rfl,rfl,trivial⟩
  exact(.refl _)
 rcases oi h with⟨c7,h⟩|⟨c7,h⟩
 ·refine .a 4 ?_;refine .nS [2] [] ?_;refine .rK [2] ?_;have hr:=Option.some.inj h;subst hr;exact⟨[(AD false)],⟨rfl,rfl,trivial⟩,rfl⟩
 refine .a 6 ?_;obtain⟨t8,et8,h⟩:=ob h;refine .callS [(.ar 1 (p0.f0.toList.map AK))] (AB t8) 27 rfl (by decide) Xf rfl rfl rfl ⟨rfl,rfl,trivial⟩ (J2 et8) ?_;refine .a 8 ?_;obtain⟨t9,et9,h⟩:=ob h;refine .callS [(.ar 1 (p0.f0.toList.map AK)),(AB t8)] (AD t9) 31 rfl (by decide) cJ rfl rfl rfl ⟨rfl,rfl,rfl,rfl,trivial⟩ (UX et9) ?_;refine .a 2 ?_;rcases oi h with⟨c10,h⟩|⟨c10,h⟩
 ·refine .a 4 ?_;refine .nS [2] [] ?_;refine .rK [2] ?_;have hr:=Option.some.inj h;subst hr;exact⟨[(AD false)],⟨rfl,rfl,trivial⟩,rfl⟩
 refine .a 1 ?_;refine .sK [1,3,4] ?_;refine .seq_mid (fun ρ H=>ρ=[]∧H=[]∧PE k=some r) ?_ ?_
 ·refine .a 8 ?_;refine .wK [1,3,4,34,35,36] ?_;refine .loop (fun kq ρ H=>∃ (x11:Int),ρ=[(1,(.ptr n2 0)),(3,(AB (p0.f1.length:Int))),(4,(AB t8)),(34,(.fz 1 (p0.f1.map Ce))),(35,(AB (p0.f1.length:Int))),(36,(AB x11))]∧H=[(n2,(.mem (Ak p0)))]∧ET k p0 t8 kq x11=some r) k ⟨(0:Int),rfl,rfl,h⟩ ?_;rintro kq13 _ _ ⟨x11,rfl,rfl,h⟩
  cases kq13 with
  | zero=>rw[ET.eq_1]at h;cases h
  | succ kq13=>
  rw[ET.eq_2]at h;generalize hrec12:ET k p0 t8 kq13=rec12 at h;refine .a 5 ?_;rcases oi h with⟨c14,h⟩|⟨c14,h⟩
  ·refine .a 1 ?_;refine .sK [1,3,4,34,35,36] ?_;refine .seq_mid (fun ρ H=>ρ=[(1,(.ptr n2 0)),(3,(AB (p0.f1.length:Int))),(4,(AB t8)),(34,(.fz 1 (p0.f1.map Ce))),(35,(AB (p0.f1.length:Int))),(36,(AB x11))]∧H=[(n2,(.mem (Ak p0)))]∧JD k rec12 x11=some r) ?_ ?_
   ·refine .a 4 ?_;obtain⟨g15,h⟩:=AC h;refine .a 7 ?_;obtain⟨b16,q17,h⟩:=ob h;refine .regM [(1,(.ptr n2 0)),(3,(AB (p0.f1.length:Int))),(4,(AB t8)),(6,(Df (AA p0.f1 x11))),(34,(.fz 1 (p0.f1.map Ce))),(35,(AB (p0.f1.length:Int))),(36,(AB x11)),(60,(AD b16))] [(n2,(.mem (Ak p0)))] ?_ ?_
    ·refine .a 5 ?_;rcases oi q17 with⟨c18,q17⟩|⟨c18,q17⟩
     ·refine .a 15 ?_;cases q17;refine .nilE ⟨rfl,rfl⟩ ?_ ?_
      ·exact⟨rfl,rfl,rfl,rfl,rfl,rfl,rfl,rfl,trivial⟩
      exact(.refl _)
     refine .a 3 ?_;obtain⟨g19,q17⟩:=AC q17;refine .a 5 ?_;rcases oi q17 with⟨c20,q17⟩|⟨c20,q17⟩
     ·refine .a 7 ?_;cases q17;refine .nilE ⟨rfl,rfl⟩ ?_ ?_
      ·exact⟨rfl,rfl,rfl,rfl,rfl,rfl,rfl,rfl,trivial⟩
      exact(.refl _)
     refine .a 3 ?_;obtain⟨g21,q17⟩:=AC q17;refine .a 4 ?_;cases q17;refine .nilE ⟨rfl,rfl⟩ ?_ ?_
     ·exact⟨rfl,rfl,rfl,rfl,rfl,rfl,rfl,rfl,trivial⟩
     exact(.refl _)
    rcases oi h with⟨c22,h⟩|⟨c22,h⟩
    ·refine .a 4 ?_;refine .nS [2] [] ?_;refine .rK [2] ?_;have hr:=Option.some.inj h;subst hr;exact⟨[(AD false)],⟨rfl,rfl,trivial⟩,rfl⟩
    refine .a 9 ?_;refine .wK [1,3,4,34,35,36,61,62,63] ?_;refine .loop (fun kq ρ H=>∃ (x23:Int),ρ=[(1,(.ptr n2 0)),(3,(AB (p0.f1.length:Int))),(4,(AB t8)),(34,(.fz 1 (p0.f1.map Ce))),(35,(AB (p0.f1.length:Int))),(36,(AB x11)),(61,(Df (AA p0.f1 x11))),(62,(AB ((AA p0.f1 x11).length:Int))),(63,(AB x23))]∧H=[(n2,(.mem (Ak p0)))]∧Fc k rec12 p0 x11 kq x23=some r) k ⟨(0:Int),rfl,rfl,h⟩ ?_;rintro kq25 _ _ ⟨x23,rfl,rfl,h⟩
    cases kq25 with
    | zero=>rw[Fc.eq_1]at h;cases h
    | succ kq25=>
    rw[Fc.eq_2]at h;generalize hrec24:Fc k rec12 p0 x11 kq25=rec24 at h;refine .a 5 ?_;rcases oi h with⟨c26,h⟩|⟨c26,h⟩
    ·refine .a 6 ?_;obtain⟨g27,h⟩:=AC h;refine .a 5 ?_;obtain⟨b28,q29,h⟩:=ob h;refine .regM [(1,(.ptr n2 0)),(3,(AB (p0.f1.length:Int))),(4,(AB t8)),(34,(.fz 1 (p0.f1.map Ce))),(35,(AB (p0.f1.length:Int))),(36,(AB x11)),(61,(Df (AA p0.f1 x11))),(62,(AB ((AA p0.f1 x11).length:Int))),(63,(AB x23)),(73,(AD b28))] [(n2,(.mem (Ak p0)))] ?_ ?_
     ·refine .a 3 ?_;rcases oi q29 with⟨c30,q29⟩|⟨c30,q29⟩
      ·refine .a 4 ?_;cases q29;refine .nilE ⟨rfl,rfl⟩ ?_ ?_
       ·exact⟨rfl,rfl,rfl,rfl,rfl,rfl,rfl,rfl,rfl,rfl,trivial⟩
       exact(.refl _)
      refine .a 4 ?_;cases q29;refine .nilE ⟨rfl,rfl⟩ ?_ ?_
      ·exact⟨rfl,rfl,rfl,rfl,rfl,rfl,rfl,rfl,rfl,rfl,trivial⟩
      exact(.refl _)
     rcases oi h with⟨c31,h⟩|⟨c31,h⟩
     ·refine .a 4 ?_;refine .nS [2] [] ?_;refine .rK [2] ?_;have hr:=Option.some.inj h;subst hr;exact⟨[(AD false)],⟨rfl,rfl,trivial⟩,rfl⟩
     refine .a 5 ?_;refine .nK [1,3,4,34,35,36,61,62,63] ?_;exact⟨kq25,Nat.lt_succ_self _,(AG (x23+(1:Int))),rfl,rfl,by rw[hrec24];exact h⟩
    refine .a 1 ?_;refine .eK [1,3,4,34,35,36] ?_;exact⟨rfl,rfl,h⟩
   rintro _ _ ⟨rfl,rfl,h⟩;rw[JD.eq_1]at h;refine .a 3 ?_;refine .nK [1,3,4,34,35,36] ?_;exact⟨kq13,Nat.lt_succ_self _,(AG (x11+(1:Int))),rfl,rfl,by rw[hrec12];exact h⟩
  refine .a 1 ?_;refine .eH [] (H':=[]) (.nil _) ?_;exact⟨rfl,rfl,h⟩
 rintro _ _ ⟨rfl,rfl,h⟩;rw[PE.eq_1]at h;refine .a 3 ?_;refine .nK [2] ?_;refine .rK [2] ?_;have hr:=Option.some.inj h;subst hr;exact⟨[(AD true)],⟨rfl,rfl,trivial⟩,rfl⟩
end Go.Avl.T8
