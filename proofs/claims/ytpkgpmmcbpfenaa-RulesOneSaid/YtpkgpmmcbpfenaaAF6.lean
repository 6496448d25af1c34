/- Parts: T7f82, T7f63, T7f55, T7f60, T7f35, T7f34, T7f58, T7f29, T7f26, T7f32, T7f109, T7f85. -/
import Derived.Test.YtpkgpmmcbpfenaaAF1
import Derived.Test.YtpkgpmmcbpfenaaAF4
import Derived.Test.YtpkgpmmcbpfenaaAF5
import Derived.Test.YtpkgpmmcbpfenaaAF2
namespace Go.Avl.T7
open Go Go.RowKit Go.Proofs Go.Avl
set_option linter.unusedVariables false
set_option maxRecDepth 100000
set_option maxHeartbeats 4000000
attribute [local irreducible] AW AO AQ Spec SpecH Calm
def F82_c0 (k:Nat) (p0:S55) (x11:(Vector Int 256)) (x15:(List (List Int))):Option S55:=
 some ((S55.mk x11 x15 p0.f2))
def F82_c1 (k:Nat) (rec19:((List (List Int))→Int→Option S55)) (x18:Int) (x23:(List (List Int))):Option S55:=
 rec19 x23 (w64 (x18+(1:Int)))
def F82_c2 (k:Nat) (rec19:((List (List Int))→Int→Option S55)) (x17:(List (List Int))) (x18:Int) (x26:(List Int)):Option S55:=
 if(x17++([x26]:List (List Int))).length*24≤140737488355328 then F82_c1 k rec19 x18 (x17++([x26]:List (List Int)))
 else none
def F82_l3 (k:Nat) (rec19:((List (List Int))→Int→Option S55)) (p0:S55) (x13:(List Int)) (x17:(List (List Int))) (x18:Int):Nat→(List Int)→Int→Option S55
 | 0,_,_=>none
 | j+1,x31,x32=>
   if x32<(x13.length:Int)then if 0≤x32∧x32<(x13.length:Int)then if 0≤(lget x13 x32)∧(lget x13 x32)<((lget p0.f1 x18).length:Int)then if(x31++([(lget (lget p0.f1 x18) (lget x13 x32))]:List Int)).length*8≤140737488355328 then(F82_l3 k rec19 p0 x13 x17 x18 j) (x31++([(lget (lget p0.f1 x18) (lget x13 x32))]:List Int)) (w64 (x32+(1:Int)))
   else none
   else none
   else none
   else F82_c2 k rec19 x17 x18 x31
def F82_l4 (k:Nat) (p0:S55) (x11:(Vector Int 256)) (x13:(List Int)):Nat→(List (List Int))→Int→Option S55
 | 0,_,_=>none
 | j+1,x17,x18=>
   if x18<(p0.f1.length:Int)then if 0≤x18∧x18<(p0.f1.length:Int)then F82_l3 k (F82_l4 k p0 x11 x13 j) p0 x13 x17 x18 k ([]:List Int) (0:Int)
   else none
   else F82_c0 k p0 x11 x17
def F82_c5 (k:Nat) (p0:S55) (x11:(Vector Int 256)) (x13:(List Int)):Option S55:=
 F82_l4 k p0 x11 x13 k ([]:List (List Int)) (0:Int)
def F82_c6 (k:Nat) (rec50:((Vector Int 256)→(List (ByteArray×Int))→(List Int)→(List Int)→(List Bool)→Int→Option S55)) (p0:S55) (x43:(Vector Int 256)) (x49:Int) (x54:(List (ByteArray×Int))) (x56:(List Int)) (x57:(List Int)) (x58:(List Bool)):Option S55:=
 if 0≤(w64 (vget p0.f0 x49))∧(w64 (vget p0.f0 x49))<(x57.length:Int)then if 0≤x49∧x49<(256:Int)then rec50 (vset x43 x49 (w8 (lget x57 (w64 (vget p0.f0 x49))))) x54 x56 x57 x58 (w64 (x49+(1:Int)))
 else none
 else none
def F82_c7 (k:Nat) (rec50:((Vector Int 256)→(List (ByteArray×Int))→(List Int)→(List Int)→(List Bool)→Int→Option S55)) (p0:S55) (x43:(Vector Int 256)) (x47:(List Int)) (x48:(List Bool)) (x49:Int) (x64:(List (ByteArray×Int))) (x66:(List Int)) (x67:Int):Option S55:=
 if 0≤(w64 (vget p0.f0 x49))∧(w64 (vget p0.f0 x49))<(x47.length:Int)then if 0≤(w64 (vget p0.f0 x49))∧(w64 (vget p0.f0 x49))<(x48.length:Int)then F82_c6 k rec50 p0 x43 x49 x64 x66 (lset x47 (w64 (vget p0.f0 x49)) x67) (lset x48 (w64 (vget p0.f0 x49)) true)
 else none
 else none
def F82_l8 (k:Nat) (p0:S55):Nat→(Vector Int 256)→(List (ByteArray×Int))→(List Int)→(List Int)→(List Bool)→Int→Option S55
 | 0,_,_,_,_,_,_=>none
 | j+1,x43,x44,x46,x47,x48,x49=>
   if x49<(256:Int)then if 0≤x49∧x49<(256:Int)then if 0≤(w64 (vget p0.f0 x49))∧(w64 (vget p0.f0 x49))<(x48.length:Int)then if(!(lget x48 (w64 (vget p0.f0 x49))))=true then(F107 k p0 (w64 (vget p0.f0 x49))).bind fun t63=>
   if(!((mget x44 t63).isSome))=true then if(x46++([(w64 (vget p0.f0 x49))]:List Int)).length*8≤140737488355328 then F82_c7 k (F82_l8 k p0 j) p0 x43 x47 x48 x49 (mput x44 t63 (x46.length:Int)) (x46++([(w64 (vget p0.f0 x49))]:List Int)) (x46.length:Int)
   else none
   else F82_c7 k (F82_l8 k p0 j) p0 x43 x47 x48 x49 x44 x46 ((mget x44 t63).getD (0:Int))
   else F82_c6 k (F82_l8 k p0 j) p0 x43 x49 x44 x46 x47 x48
   else none
   else none
   else F82_c5 k p0 x43 x46
def F82 (k:Nat) (p0:S55):Option S55:=
 (F101 k p0.f0).bind fun t6=>
 if 0≤t6∧t6*(8:Int)≤140737488355328∧t6≤9223372036854775807 then if 0≤((List.replicate t6.toNat (0:Int)).length:Int)∧((List.replicate t6.toNat (0:Int)).length:Int)*(1:Int)≤140737488355328∧((List.replicate t6.toNat (0:Int)).length:Int)≤9223372036854775807 then F82_l8 k p0 k (Vector.replicate 256 (0:Int)) ([]:List (ByteArray×Int)) ([]:List Int) (List.replicate t6.toNat (0:Int)) (List.replicate ((List.replicate t6.toNat (0:Int)).length:Int).toNat false) (0:Int)
 else none
 else none
theorem F82_spec {k:Nat} {p0:S55} {r:S55} (h:F82 k p0=some r):Spec Try.prog 82 [(e55 p0)] (e55 r):=by
 rw[F82.eq_1]at h
 refine Spec.intro (res:=[.cell 2 55]) Try.func82 rfl rfl rfl (Nat.le_of_ble_eq_true rfl) ?_
 refine .sr ?_
 refine .box rfl 1 rfl (by decide) rfl rfl rfl fun n2=>?_
 refine .alloc rfl 2 rfl (by decide) rfl zr55 lay55 fun n3=>?_
 refine .nS [1,2] [1,0] ?_
 refine .a 4 ?_
 refine .c (x:=(Z20 ((Vector.replicate 256 (0:Int)).toList.map eU8) p0.f2)) (.build (qs:=[(2,(Z23 p0.f2))]) rfl ⟨rfl,rfl,rfl,trivial⟩ Try.underlying55 rfl zr55 lay55 (.cons rfl rfl rfl rfl (.cast (.fldS (.fldS (.fld0 .here))) rfl) .nil) rfl) ?_
 refine .alloc rfl 3 rfl (by decide) rfl zr55 lay55 fun n4=>?_
 refine .store 0 rfl rfl rfl rfl rfl rfl (.cast .here rfl) rfl rfl sz55 rfl ?_
 refine .nS [1,2,3] [1,2,0] ?_
 refine .sr ?_
 refine .makeMap rfl 21 rfl (by decide) rfl fun n5=>?_
 refine .a 1 ?_
 refine .nS [1,2,3,4] [1,2,3,0] ?_
 refine .a 8 ?_
 obtain⟨t6,et6,h⟩:=ob h
 refine .callS [(.ar 1 (p0.f0.toList.map eU8))] (eI64 t6) 24 rfl (by decide) ok101 rfl rfl rfl ⟨rfl,rfl,trivial⟩ (F101_spec et6) ?_
 obtain⟨g8,h⟩:=of_guard h
 refine .makeL (f:=eI64) (0:Int) rfl 25 rfl (by decide) rfl rfl rfl Try.underlying35 sz3 by3 zr3 lay3 rfl g8 fun n7=>?_
 refine .a 1 ?_
 refine .nS [1,2,3,4,5,6] [1,2,3,4,0] ?_
 refine .a 4 ?_
 obtain⟨g10,h⟩:=of_guard h
 refine .makeL (f:=eBool) false rfl 28 rfl (by decide) rfl rfl rfl Try.underlying98 sz4 by4 zr4 lay4 rfl g10 fun n9=>?_
 refine .a 1 ?_
 refine .nS [1,2,3,4,5,6,7] [1,2,3,4,5,0] ?_
 refine .seq_mid (fun ρ H=>∃ (n12:Nat) (x11:(Vector Int 256)) (x13:(List Int)),ρ=[(1,(.ptr n2 0)),(2,(.ptr n3 0)),(3,(.ptr n4 0)),(5,(.own n12 0 x13.length))]∧H=[(n2,(.mem (e55 p0))),(Z15 n3 ((Vector.replicate 256 (0:Int)).toList.map eU8)),(n4,(.mem (Z20 (x11.toList.map eU8) p0.f2))),(n12,(Z3 x13))]∧F82_c5 k p0 x11 x13=some r) ?_ ?_
 ·refine .a 5 ?_
  refine .nilOwn 5 1 rfl fun n74=>?_
  refine .wH [1,2,3,4,5,6,7,29] (H':=[(n2,(.mem (e55 p0))),(Z15 n3 ((Vector.replicate 256 (0:Int)).toList.map eU8)),(n4,(.mem (Z20 ((Vector.replicate 256 (0:Int)).toList.map eU8) p0.f2))),(n5,(.map (encM Value.string eI64 ([]:List (ByteArray×Int))))),(n74,(Z3 ([]:List Int))),(n7,(Z3 (List.replicate t6.toNat (0:Int)))),(Z9 n9 (List.replicate ((List.replicate t6.toNat (0:Int)).length:Int).toNat false))]) (.cons 1 rfl (.cons 1 rfl (.cons 1 rfl (.cons 1 rfl (.cons 0 rfl (.cons 0 rfl (.cons 0 rfl (.nil _)))))))) ?_
  refine .loop (fun kq ρ H=>∃ (n45:Nat) (x43:(Vector Int 256)) (x44:(List (ByteArray×Int))) (x46:(List Int)) (x47:(List Int)) (x48:(List Bool)) (x49:Int),ρ=[(1,(.ptr n2 0)),(2,(.ptr n3 0)),(3,(.ptr n4 0)),(4,(.mp n5)),(5,(.own n45 0 x46.length)),(6,(.own n7 0 x47.length)),(7,(.own n9 0 x48.length)),(29,(eI64 x49))]∧H=[(n2,(.mem (e55 p0))),(Z15 n3 ((Vector.replicate 256 (0:Int)).toList.map eU8)),(n4,(.mem (Z20 (x43.toList.map eU8) p0.f2))),(n5,(.map (encM Value.string eI64 x44))),(n45,(Z3 x46)),(n7,(Z3 x47)),(Z9 n9 x48)]∧F82_l8 k p0 kq x43 x44 x46 x47 x48 x49=some r) k ⟨n74,(Vector.replicate 256 (0:Int)),([]:List (ByteArray×Int)),([]:List Int),(List.replicate t6.toNat (0:Int)),(List.replicate ((List.replicate t6.toNat (0:Int)).length:Int).toNat false),(0:Int),rfl,rfl,h⟩ ?_
  rintro kq51 _ _ ⟨n45,x43,x44,x46,x47,x48,x49,rfl,rfl,h⟩
  cases kq51 with
  | zero=>rw[F82_l8.eq_1]at h;cases h
  | succ kq51=>
  rw[F82_l8.eq_2]at h
  generalize hrec50:F82_l8 k p0 kq51=rec50 at h
  refine .a 5 ?_
  rcases oi h with⟨c52,h⟩|⟨c52,h⟩
  ·refine .a 13 ?_
   obtain⟨g53,h⟩:=of_guard h
   refine .c (.idxP rfl rfl rfl g53 Try.underlying52 sz5) ?_
   refine .c (.load 0 rfl rfl rfl (.cast (.fld0 (.vidx x49 g53.1 g53.2 .here)) (by omega)) ag5 sz5) ?_
   refine .c (x:=eI64 (w64 (vget p0.f0 x49))) (.conv rfl rfl Try.underlying5 Try.underlying3) ?_
   refine .ag rfl rfl ?_
   refine .nK [1,2,3,4,5,6,7,8,9,29] ?_
   refine .seq_mid (fun ρ H=>∃ (n55:Nat) (x54:(List (ByteArray×Int))) (x56:(List Int)) (x57:(List Int)) (x58:(List Bool)),ρ=[(1,(.ptr n2 0)),(2,(.ptr n3 0)),(3,(.ptr n4 0)),(4,(.mp n5)),(5,(.own n55 0 x56.length)),(6,(.own n7 0 x57.length)),(7,(.own n9 0 x58.length)),(8,(eI64 x49)),(9,(eI64 (w64 (vget p0.f0 x49)))),(29,(eI64 x49))]∧H=[(n2,(.mem (e55 p0))),(Z15 n3 ((Vector.replicate 256 (0:Int)).toList.map eU8)),(n4,(.mem (Z20 (x43.toList.map eU8) p0.f2))),(n5,(.map (encM Value.string eI64 x54))),(n55,(Z3 x56)),(n7,(Z3 x57)),(Z9 n9 x58)]∧F82_c6 k rec50 p0 x43 x49 x54 x56 x57 x58=some r) ?_ ?_
   ·refine .a 4 ?_
    obtain⟨g61,h⟩:=of_guard h
    refine .c (.idxO 6 rfl rfl rfl rfl g61 Try.underlying98 sz4) ?_
    refine .c (.load 6 rfl rfl rfl (.cast (.lidx (w64 (vget p0.f0 x49)) g61.1 g61.2 .here) (by omega)) ag4 sz4) ?_
    refine .c (.not rfl rfl) ?_
    refine .nK [1,2,3,4,5,6,7,8,9,29,41] ?_
    rcases oi h with⟨c62,h⟩|⟨c62,h⟩
    ·refine .a 5 ?_
     obtain⟨t63,et63,h⟩:=ob h
     refine .callS [(e55 p0),(eI64 (w64 (vget p0.f0 x49)))] (eStr t63) 44 rfl (by decide) ok107 rfl rfl rfl ⟨rfl,rfl,rfl,rfl,trivial⟩ (F107_spec et63) ?_
     refine .a 6 ?_
     refine .c (x:=.tup [(eI64 ((mget x44 t63).getD (0:Int))),(eBool ((mget x44 t63).isSome))]) (.look2 (f:=eI64) string_inj string_key (0:Int) 3 rfl rfl rfl rfl Try.underlying109 Try.underlying9 mz3) ?_
     refine .a 5 ?_
     refine .nK [1,2,3,4,5,6,7,8,9,10,11,12,29] ?_
     refine .seq_mid (fun ρ H=>∃ (n65:Nat) (x64:(List (ByteArray×Int))) (x66:(List Int)) (x67:Int),ρ=[(1,(.ptr n2 0)),(2,(.ptr n3 0)),(3,(.ptr n4 0)),(4,(.mp n5)),(5,(.own n65 0 x66.length)),(6,(.own n7 0 x47.length)),(7,(.own n9 0 x48.length)),(8,(eI64 x49)),(9,(eI64 (w64 (vget p0.f0 x49)))),(11,(eI64 x67)),(29,(eI64 x49))]∧H=[(n2,(.mem (e55 p0))),(Z15 n3 ((Vector.replicate 256 (0:Int)).toList.map eU8)),(n4,(.mem (Z20 (x43.toList.map eU8) p0.f2))),(n5,(.map (encM Value.string eI64 x64))),(n65,(Z3 x66)),(n7,(Z3 x47)),(Z9 n9 x48)]∧F82_c7 k rec50 p0 x43 x47 x48 x49 x64 x66 x67=some r) ?_ ?_
     ·refine .a 5 ?_
      rcases oi h with⟨c70,h⟩|⟨c70,h⟩
      ·refine .a 12 ?_
       refine .mapPut (f:=eI64) string_inj string_key 3 rfl rfl rfl rfl rfl rfl rfl rfl Try.underlying109 Try.underlying9 ?_
       refine .a 4 ?_
       refine .lit (Z:=(eI64 (0:Int))) (xs:=(([(w64 (vget p0.f0 x49))]:List Int).map eI64)) (qs:=[(0,(eI64 (w64 (vget p0.f0 x49))))]) rfl 60 rfl (by decide) rfl ⟨rfl,rfl,rfl,trivial⟩ Try.underlying35 sz3 zr3 lay3 rfl (by decide) (litOK (z:=1) [(eI64 (w64 (vget p0.f0 x49)))] rfl ⟨⟨rfl,rfl⟩,trivial⟩) rfl fun n71=>?_
       obtain⟨g73,h⟩:=of_guard h
       refine .appendL (l:=x46) (m:=([(w64 (vget p0.f0 x49))]:List Int)) 5 61 rfl (by decide) rfl rfl rfl rfl rfl (Src.ownL (f:=eI64) (l:=([(w64 (vget p0.f0 x49))]:List Int)) 0 rfl) Try.underlying35 Try.underlying35 sz3 by3 zr3 rfl g73 (by decide) fun n72=>?_
       refine .a 1 ?_
       refine .nS [1,2,3,4,5,6,7,8,9,11,29] [1,2,3,4,5,6,7] ?_
       exact⟨n72,(mput x44 t63 (x46.length:Int)),(x46++([(w64 (vget p0.f0 x49))]:List Int)),(x46.length:Int),rfl,rfl,h⟩
      refine .a 1 ?_
      refine .sK [1,2,3,4,5,6,7,8,9,11,29] ?_
      exact⟨n45,x44,x46,((mget x44 t63).getD (0:Int)),rfl,rfl,h⟩
     rintro _ _ ⟨n65,x64,x66,x67,rfl,rfl,h⟩
     rw[F82_c7.eq_1]at h
     refine .a 6 ?_
     obtain⟨g68,h⟩:=of_guard h
     refine .a 1 ?_
     refine .store 5 rfl rfl rfl rfl rfl rfl (.cast (.lidx (w64 (vget p0.f0 x49)) x67 g68.1 g68.2 .here) (by omega)) rfl rfl sz3 rfl ?_
     refine .coe 6 (y':=(Z28 n7 (lset x47 (w64 (vget p0.f0 x49)) x67).length)) rfl (fun _ _ h=>lset_own h) ?_
     refine .coe 62 (y':=(Z28 n7 (lset x47 (w64 (vget p0.f0 x49)) x67).length)) rfl (fun _ _ h=>lset_own h) ?_
     obtain⟨g69,h⟩:=of_guard h
     refine .a 1 ?_
     refine .store 6 rfl rfl rfl rfl rfl rfl (.cast (.lidx (w64 (vget p0.f0 x49)) true g69.1 g69.2 .here) (by omega)) rfl rfl sz4 rfl ?_
     refine .coe 7 (y':=(Z28 n9 (lset x48 (w64 (vget p0.f0 x49)) true).length)) rfl (fun _ _ h=>lset_own h) ?_
     refine .coe 64 (y':=(Z28 n9 (lset x48 (w64 (vget p0.f0 x49)) true).length)) rfl (fun _ _ h=>lset_own h) ?_
     refine .nK [1,2,3,4,5,6,7,8,9,29] ?_
     exact⟨n65,x64,x66,(lset x47 (w64 (vget p0.f0 x49)) x67),(lset x48 (w64 (vget p0.f0 x49)) true),rfl,rfl,h⟩
    refine .a 1 ?_
    refine .sK [1,2,3,4,5,6,7,8,9,29] ?_
    exact⟨n45,x44,x46,x47,x48,rfl,rfl,h⟩
   rintro _ _ ⟨n55,x54,x56,x57,x58,rfl,rfl,h⟩
   rw[F82_c6.eq_1]at h
   refine .a 4 ?_
   obtain⟨g59,h⟩:=of_guard h
   refine .c (.idxO 5 rfl rfl rfl rfl g59 Try.underlying35 sz3) ?_
   refine .c (.load 5 rfl rfl rfl (.cast (.lidx (w64 (vget p0.f0 x49)) g59.1 g59.2 .here) (by omega)) ag3 sz3) ?_
   refine .c (x:=eU8 (w8 (lget x57 (w64 (vget p0.f0 x49))))) (.conv rfl rfl Try.underlying3 Try.underlying5) ?_
   refine .c (x:=.ptr n4 0) (.fldPtr rfl rfl Try.underlying55 rfl sz52 _ rfl) ?_
   obtain⟨g60,h⟩:=of_guard h
   refine .c (.idxP rfl rfl rfl g60 Try.underlying52 sz5) ?_
   refine .store 2 rfl rfl rfl rfl rfl rfl (.cast (.fld0 (.vidx x49 (w8 (lget x57 (w64 (vget p0.f0 x49)))) g60.1 g60.2 .here)) (by omega)) rfl rfl sz5 rfl ?_
   refine .a 4 ?_
   refine .nK [1,2,3,4,5,6,7,29] ?_
   exact⟨kq51,Nat.lt_succ_self _,n55,(vset x43 x49 (w8 (lget x57 (w64 (vget p0.f0 x49))))),x54,x56,x57,x58,(w64 (x49+(1:Int))),rfl,rfl,by rw[hrec50];exact h⟩
  refine .a 1 ?_
  refine .eH [1,2,3,5] (H':=[(n2,(.mem (e55 p0))),(Z15 n3 ((Vector.replicate 256 (0:Int)).toList.map eU8)),(n4,(.mem (Z20 (x43.toList.map eU8) p0.f2))),(n45,(Z3 x46))]) (.cons 0 rfl (.cons 0 rfl (.cons 0 rfl (.cons 1 rfl (.nil _))))) ?_
  exact⟨n45,x43,x46,rfl,rfl,h⟩
 rintro _ _ ⟨n12,x11,x13,rfl,rfl,h⟩
 rw[F82_c5.eq_1]at h
 refine .seq_mid (fun ρ H=>∃ (n14:Nat) (x15:(List (List Int))),ρ=[(2,(.ptr n3 0)),(3,(.ptr n4 0))]∧H=[(Z15 n3 ((Vector.replicate 256 (0:Int)).toList.map eU8)),(Z14 n4 (x11.toList.map eU8) n14 x15.length p0.f2),(Z5 n14 x15)]∧F82_c0 k p0 x11 x15=some r) ?_ ?_
 ·refine .a 6 ?_
  refine .nS [2,3,5,79,80,81] [1,2,3] ?_
  refine .a 1 ?_
  refine .nilOwnFld 1 1 (fun n42=>(.st [(256,(.ar 1 (x11.toList.map eU8))),(1,(.own n42 0 0)),(1,(Z23 p0.f2))])) rfl (fun _=>(.cast (.fldS (.fld0 .here)) rfl)) (fun _=>rfl) (fun _=>rfl) fun n42=>?_
  refine .wH [2,3,5,79,80,81] (H':=[(Z15 n3 ((Vector.replicate 256 (0:Int)).toList.map eU8)),(Z14 n4 (x11.toList.map eU8) n42 ([]:List (List Int)).length p0.f2),(Z5 n42 ([]:List (List Int))),(n12,(Z3 x13))]) (.cons 1 rfl (.cons 1 rfl (.cons 0 rfl (.cons 0 rfl (.nil _))))) ?_
  refine .loop (fun kq ρ H=>∃ (n16:Nat) (x17:(List (List Int))) (x18:Int),ρ=[(2,(.ptr n3 0)),(3,(.ptr n4 0)),(5,(.own n12 0 x13.length)),(79,(.fz 1 (p0.f1.map e35))),(80,(eI64 (p0.f1.length:Int))),(81,(eI64 x18))]∧H=[(Z15 n3 ((Vector.replicate 256 (0:Int)).toList.map eU8)),(Z14 n4 (x11.toList.map eU8) n16 x17.length p0.f2),(Z5 n16 x17),(n12,(Z3 x13))]∧F82_l4 k p0 x11 x13 kq x17 x18=some r) k ⟨n42,([]:List (List Int)),(0:Int),rfl,rfl,h⟩ ?_
  rintro kq20 _ _ ⟨n16,x17,x18,rfl,rfl,h⟩
  cases kq20 with
  | zero=>rw[F82_l4.eq_1]at h;cases h
  | succ kq20=>
  rw[F82_l4.eq_2]at h
  generalize hrec19:F82_l4 k p0 x11 x13 kq20=rec19 at h
  refine .a 5 ?_
  rcases oi h with⟨c21,h⟩|⟨c21,h⟩
  ·refine .a 1 ?_
   refine .sK [2,3,5,79,80,81] ?_
   refine .seq_mid (fun ρ H=>∃ (n22:Nat) (x23:(List (List Int))),ρ=[(2,(.ptr n3 0)),(3,(.ptr n4 0)),(5,(.own n12 0 x13.length)),(79,(.fz 1 (p0.f1.map e35))),(80,(eI64 (p0.f1.length:Int))),(81,(eI64 x18))]∧H=[(Z15 n3 ((Vector.replicate 256 (0:Int)).toList.map eU8)),(Z14 n4 (x11.toList.map eU8) n22 x23.length p0.f2),(Z5 n22 x23),(n12,(Z3 x13))]∧F82_c1 k rec19 x18 x23=some r) ?_ ?_
   ·refine .a 3 ?_
    obtain⟨g24,h⟩:=of_guard h
    refine .a 7 ?_
    refine .nK [2,3,5,14,15,79,80,81] ?_
    refine .seq_mid (fun ρ H=>∃ (n25:Nat) (x26:(List Int)),ρ=[(2,(.ptr n3 0)),(3,(.ptr n4 0)),(5,(.own n12 0 x13.length)),(15,(.own n25 0 x26.length)),(79,(.fz 1 (p0.f1.map e35))),(80,(eI64 (p0.f1.length:Int))),(81,(eI64 x18))]∧H=[(Z15 n3 ((Vector.replicate 256 (0:Int)).toList.map eU8)),(Z14 n4 (x11.toList.map eU8) n16 x17.length p0.f2),(Z5 n16 x17),(n12,(Z3 x13)),(n25,(Z3 x26))]∧F82_c2 k rec19 x17 x18 x26=some r) ?_ ?_
    ·refine .a 7 ?_
     refine .nilOwn 15 1 rfl fun n41=>?_
     refine .wH [2,3,5,14,15,79,80,81,85,86,87] (H':=[(Z15 n3 ((Vector.replicate 256 (0:Int)).toList.map eU8)),(Z14 n4 (x11.toList.map eU8) n16 x17.length p0.f2),(Z5 n16 x17),(n12,(Z3 x13)),(n41,(Z3 ([]:List Int)))]) (.cons 1 rfl (.cons 1 rfl (.cons 1 rfl (.cons 1 rfl (.cons 0 rfl (.nil _)))))) ?_
     refine .loop (fun kq ρ H=>∃ (n30:Nat) (x31:(List Int)) (x32:Int),ρ=[(2,(.ptr n3 0)),(3,(.ptr n4 0)),(5,(.own n12 0 x13.length)),(14,(Z23 (lget p0.f1 x18))),(15,(.own n30 0 x31.length)),(79,(.fz 1 (p0.f1.map e35))),(80,(eI64 (p0.f1.length:Int))),(81,(eI64 x18)),(85,(.own n12 0 x13.length)),(86,(eI64 (x13.length:Int))),(87,(eI64 x32))]∧H=[(Z15 n3 ((Vector.replicate 256 (0:Int)).toList.map eU8)),(Z14 n4 (x11.toList.map eU8) n16 x17.length p0.f2),(Z5 n16 x17),(n12,(Z3 x13)),(n30,(Z3 x31))]∧F82_l3 k rec19 p0 x13 x17 x18 kq x31 x32=some r) k ⟨n41,([]:List Int),(0:Int),rfl,rfl,h⟩ ?_
     rintro kq34 _ _ ⟨n30,x31,x32,rfl,rfl,h⟩
     cases kq34 with
     | zero=>rw[F82_l3.eq_1]at h;cases h
     | succ kq34=>
     rw[F82_l3.eq_2]at h
     generalize hrec33:F82_l3 k rec19 p0 x13 x17 x18 kq34=rec33 at h
     refine .a 5 ?_
     rcases oi h with⟨c35,h⟩|⟨c35,h⟩
     ·refine .a 6 ?_
      obtain⟨g36,h⟩:=of_guard h
      refine .c (.idxO 3 rfl rfl rfl rfl g36 Try.underlying35 sz3) ?_
      refine .c (.load 3 rfl rfl rfl (.cast (.lidx x32 g36.1 g36.2 .here) (by omega)) ag3 sz3) ?_
      refine .ag rfl rfl ?_
      refine .nK [2,3,5,14,15,17,79,80,81,85,86,87] ?_
      refine .reg ?_
      refine .mv rfl rfl ?_
      refine .mv rfl rfl ?_
      refine .mv rfl rfl ?_
      obtain⟨g37,h⟩:=of_guard h
      refine .a 2 ?_
      refine .lit (Z:=(eI64 (0:Int))) (xs:=(([(lget (lget p0.f1 x18) (lget x13 x32))]:List Int).map eI64)) (qs:=[(0,(eI64 (lget (lget p0.f1 x18) (lget x13 x32))))]) rfl 96 rfl (by decide) rfl ⟨rfl,rfl,rfl,trivial⟩ Try.underlying35 sz3 zr3 lay3 rfl (by decide) (litOK (z:=1) [(eI64 (lget (lget p0.f1 x18) (lget x13 x32)))] rfl ⟨⟨rfl,rfl⟩,trivial⟩) rfl fun n38=>?_
      obtain⟨g40,h⟩:=of_guard h
      refine .appendL (l:=x31) (m:=([(lget (lget p0.f1 x18) (lget x13 x32))]:List Int)) 5 97 rfl (by decide) rfl rfl rfl rfl rfl (Src.ownL (f:=eI64) (l:=([(lget (lget p0.f1 x18) (lget x13 x32))]:List Int)) 0 rfl) Try.underlying35 Try.underlying35 sz3 by3 zr3 rfl g40 (by decide) fun n39=>?_
      refine .a 1 ?_
      refine .nS [2,3,5,14,15,79,80,81,85,86,87] [1,2,3,4,5] ?_
      refine .a 3 ?_
      refine .nK [2,3,5,14,15,79,80,81,85,86,87] ?_
      exact⟨kq34,Nat.lt_succ_self _,n39,(x31++([(lget (lget p0.f1 x18) (lget x13 x32))]:List Int)),(w64 (x32+(1:Int))),rfl,rfl,by rw[hrec33];exact h⟩
     refine .a 1 ?_
     refine .eK [2,3,5,15,79,80,81] ?_
     exact⟨n30,x31,rfl,rfl,h⟩
    rintro _ _ ⟨n25,x26,rfl,rfl,h⟩
    rw[F82_c2.eq_1]at h
    refine .a 4 ?_
    refine .freezeS 4 [(15,(.fz 1 (x26.map eI64))),(101,(.fz 1 (x26.map eI64)))] rfl ⟨fz_all rfl,fz_all rfl,trivial⟩ ?_
    refine .lit (Z:=(.fl (.slice none 0 0))) (xs:=(([x26]:List (List Int)).map e35)) (qs:=[(0,(.fz 1 (x26.map eI64)))]) rfl 102 rfl (by decide) rfl ⟨rfl,rfl,rfl,trivial⟩ Try.underlying53 sz35 zr35 lay35 rfl (by decide) (litOK (z:=1) [(.fz 1 (x26.map eI64))] rfl ⟨⟨rfl,rfl⟩,trivial⟩) rfl fun n27=>?_
    obtain⟨g29,h⟩:=of_guard h
    refine .appendL (l:=x17) (m:=([x26]:List (List Int))) 3 103 rfl (by decide) rfl rfl rfl rfl rfl (Src.ownL (f:=e35) (l:=([x26]:List (List Int))) 0 rfl) Try.underlying53 Try.underlying53 sz35 by35 zr35 rfl g29 (by decide) fun n28=>?_
    refine .a 1 ?_
    refine .store 2 rfl rfl rfl rfl rfl rfl (.cast (.fldS (.fld0 .here)) rfl) rfl rfl sz53 rfl ?_
    refine .nS [2,3,5,79,80,81] [1,2,3,4] ?_
    exact⟨n28,(x17++([x26]:List (List Int))),rfl,rfl,h⟩
   rintro _ _ ⟨n22,x23,rfl,rfl,h⟩
   rw[F82_c1.eq_1]at h
   refine .a 3 ?_
   refine .nK [2,3,5,79,80,81] ?_
   exact⟨kq20,Nat.lt_succ_self _,n22,x23,(w64 (x18+(1:Int))),rfl,rfl,by rw[hrec19];exact h⟩
  refine .a 1 ?_
  refine .eH [2,3] (H':=[(Z15 n3 ((Vector.replicate 256 (0:Int)).toList.map eU8)),(Z14 n4 (x11.toList.map eU8) n16 x17.length p0.f2),(Z5 n16 x17)]) (.cons 0 rfl (.cons 0 rfl (.cons 0 rfl (.nil _)))) ?_
  exact⟨n16,x17,rfl,rfl,h⟩
 rintro _ _ ⟨n14,x15,rfl,rfl,h⟩
 rw[F82_c0.eq_1]at h
 refine .sr ?_
 refine .freezeFld (X':=(Z16 (x11.toList.map eU8) x15 p0.f2)) (els':=(x15.map e35)) 2 1 rfl rfl (.cast (.fldS (.fld0 .here)) rfl) (by simp) (by rw[own_all]) rfl rfl (by decide) ?_
 refine .a 1 ?_
 refine .store 0 rfl rfl rfl rfl rfl rfl (.cast .here rfl) rfl rfl sz55 rfl ?_
 refine .nS [2] [0] ?_
 refine .rK [2] ?_
 cases h
 exact⟨[(e55 (S55.mk x11 x15 p0.f2))],⟨⟨_,0,rfl,rfl,ag55,sz55⟩,trivial⟩,rfl⟩
end Go.Avl.T7
namespace Go.Avl.T7
open Go Go.RowKit Go.Proofs Go.Avl
set_option linter.unusedVariables false
set_option maxRecDepth 100000
set_option maxHeartbeats 4000000
set_option linter.unusedSimpArgs false
attribute [local irreducible] AW AO AQ Spec SpecH Calm
def F63_c0 (k:Nat) (t7:S55) (x11:(List (List Int))) (x13:(List Int)):Option (S55×Int):=
 (F82 k (S55.mk t7.f0 x11 x13)).bind fun t14=>
 (F79 k t14).bind fun t15=>
 some (t15,(0:Int))
def F63_c1 (k:Nat) (rec21:((List (List Int))→(List Int)→Int→Option (S55×Int))) (x20:Int) (x25:(List (List Int))) (x27:(List Int)):Option (S55×Int):=
 rec21 x25 x27 (w64 (x20+(1:Int)))
def F63_c2 (k:Nat) (rec21:((List (List Int))→(List Int)→Int→Option (S55×Int))) (t7:S55) (x17:(List (List Int))) (x19:(List Int)) (x20:Int) (x31:(List Int)):Option (S55×Int):=
 if(x17++([x31]:List (List Int))).length*24≤140737488355328 then if 0≤x20∧x20<(t7.f2.length:Int)then if(x19++([(lget t7.f2 x20)]:List Int)).length*8≤140737488355328 then F63_c1 k rec21 x20 (x17++([x31]:List (List Int))) (x19++([(lget t7.f2 x20)]:List Int))
 else none
 else none
 else none
def F63_c3 (k:Nat) (rec43:((List Int)→Int→Option (S55×Int))) (x41:(List Int)) (x42:Int) (x47:Int):Option (S55×Int):=
 if(x41++([x47]:List Int)).length*8≤140737488355328 then rec43 (x41++([x47]:List Int)) (w64 (x42+(1:Int)))
 else none
def F63_l4 (k:Nat) (rec21:((List (List Int))→(List Int)→Int→Option (S55×Int))) (t7:S55) (t8:(List Int)) (x17:(List (List Int))) (x19:(List Int)) (x20:Int):Nat→(List Int)→Int→Option (S55×Int)
 | 0,_,_=>none
 | j+1,x41,x42=>
   if x42<((lget t7.f1 x20).length:Int)then if 0≤x42∧x42<((lget t7.f1 x20).length:Int)then if(0:Int)≤(lget (lget t7.f1 x20) x42)then if 0≤(lget (lget t7.f1 x20) x42)∧(lget (lget t7.f1 x20) x42)<(t8.length:Int)then F63_c3 k (F63_l4 k rec21 t7 t8 x17 x19 x20 j) x41 x42 (lget t8 (lget (lget t7.f1 x20) x42))
   else none
   else F63_c3 k (F63_l4 k rec21 t7 t8 x17 x19 x20 j) x41 x42 (lget (lget t7.f1 x20) x42)
   else none
   else F63_c2 k rec21 t7 x17 x19 x20 x41
def F63_l5 (k:Nat) (t7:S55) (t8:(List Int)):Nat→(List (List Int))→(List Int)→Int→Option (S55×Int)
 | 0,_,_,_=>none
 | j+1,x17,x19,x20=>
   if x20<(t7.f1.length:Int)then if 0≤x20∧x20<(t8.length:Int)then if(lget t8 x20)≠(x17.length:Int)then F63_c1 k (F63_l5 k t7 t8 j) x20 x17 x19
   else if 0≤x20∧x20<(t7.f1.length:Int)then F63_l4 k (F63_l5 k t7 t8 j) t7 t8 x17 x19 x20 k ([]:List Int) (0:Int)
   else none
   else none
   else F63_c0 k t7 x17 x19
def F63 (k:Nat) (p0:S55):Option (S55×Int):=
 (F78 k p0).bind fun t4=>
 if(!t4)=true then some ((S55.mk (Vector.replicate 256 (0:Int)) ([]:List (List Int)) ([]:List Int)),(1:Int))
 else(F80 k p0).bind fun t6=>
 (F79 k t6).bind fun t7=>
 (F81 k t7).bind fun t8=>
 F63_l5 k t7 t8 k ([]:List (List Int)) ([]:List Int) (0:Int)
theorem F63_spec {k:Nat} {p0:S55} {r:(S55×Int)} (h:F63 k p0=some r):Spec Try.prog 63 [(e55 p0)] (.tup [(e55 r.1),(eI64 r.2)]):=by
 rw[F63.eq_1]at h
 refine Spec.intro (res:=[.cell 2 55,.tmp 3]) Try.func63 rfl rfl rfl (Nat.le_of_ble_eq_true rfl) ?_
 refine .sr ?_
 refine .box rfl 1 rfl (by decide) rfl rfl rfl fun n2=>?_
 refine .alloc rfl 2 rfl (by decide) rfl zr55 lay55 fun n3=>?_
 refine .a 1 ?_
 refine .nS [1,2] [1,0] ?_
 refine .a 4 ?_
 obtain⟨t4,et4,h⟩:=ob h
 refine .callS [(e55 p0)] (eBool t4) 11 rfl (by decide) ok78 rfl rfl rfl ⟨rfl,rfl,trivial⟩ (F78_spec et4) ?_
 refine .a 2 ?_
 rcases oi h with⟨c5,h⟩|⟨c5,h⟩
 ·refine .a 3 ?_
  refine .c (x:=(Z0 ((Vector.replicate 256 (0:Int)).toList.map eU8))) (.build (qs:=[]) rfl trivial Try.underlying55 rfl zr55 lay55 .nil rfl) ?_
  refine .store 1 rfl rfl rfl rfl rfl rfl (.cast .here rfl) rfl rfl sz55 rfl ?_
  refine .a 1 ?_
  refine .nS [2,3] [1] ?_
  refine .coeFld (X':=(Z22 ((Vector.replicate 256 (0:Int)).toList.map eU8) ([]:List (List Int)))) 0 rfl (.cast (.fldS (.fld0 .here)) rfl) rfl (nil_fz 1) rfl rfl ?_
  refine .coeFld (X':=(Z16 ((Vector.replicate 256 (0:Int)).toList.map eU8) ([]:List (List Int)) ([]:List Int))) 0 rfl (.cast (.fldS (.fldS (.fld0 .here))) rfl) rfl (nil_fz 1) rfl rfl ?_
  refine .rK [2,3] ?_
  cases h
  exact⟨[(e55 (S55.mk (Vector.replicate 256 (0:Int)) ([]:List (List Int)) ([]:List Int))),(eI64 (1:Int))],⟨⟨_,0,rfl,rfl,ag55,sz55⟩,rfl,rfl,trivial⟩,rfl⟩
 refine .a 5 ?_
 obtain⟨t6,et6,h⟩:=ob h
 refine .callS [(e55 p0)] (e55 t6) 15 rfl (by decide) ok80 rfl rfl rfl ⟨rfl,rfl,trivial⟩ (F80_spec et6) ?_
 obtain⟨t7,et7,h⟩:=ob h
 refine .callS [(e55 t6)] (e55 t7) 16 rfl (by decide) ok79 rfl rfl rfl ⟨rfl,rfl,trivial⟩ (F79_spec et7) ?_
 refine .store 0 rfl rfl rfl rfl rfl rfl (.cast .here rfl) rfl rfl sz55 rfl ?_
 refine .a 4 ?_
 obtain⟨t8,et8,h⟩:=ob h
 refine .callS [(e55 t7)] (.fz 1 (t8.map eI64)) 18 rfl (by decide) ok81 rfl rfl rfl ⟨rfl,rfl,trivial⟩ (F81_spec et8) ?_
 refine .a 6 ?_
 refine .c (x:=(Z0 (t7.f0.toList.map eU8))) (.build (qs:=[(0,(.ar 1 (t7.f0.toList.map eU8)))]) rfl ⟨rfl,rfl,rfl,trivial⟩ Try.underlying55 rfl zr55 lay55 (.cons rfl rfl (vec_size _ _) (vec_size _ _) (.cast (.fld0 .here) rfl) .nil) rfl) ?_
 refine .alloc rfl 5 rfl (by decide) rfl zr55 lay55 fun n9=>?_
 refine .store 0 rfl rfl rfl rfl rfl rfl (.cast .here rfl) rfl rfl sz55 rfl ?_
 refine .nS [1,2,4,5] [1,2,0] ?_
 refine .seq_mid (fun ρ H=>∃ (n10:Nat) (n12:Nat) (x11:(List (List Int))) (x13:(List Int)),ρ=[(2,(.ptr n3 0)),(5,(.ptr n9 0))]∧H=[(Z15 n3 ((Vector.replicate 256 (0:Int)).toList.map eU8)),(Z6 n9 (t7.f0.toList.map eU8) n10 x11.length n12 x13.length),(Z5 n10 x11),(n12,(Z3 x13))]∧F63_c0 k t7 x11 x13=some r) ?_ ?_
 ·refine .a 8 ?_
  refine .nilOwnFld 2 1 (fun n54=>(.st [(256,(.ar 1 (t7.f0.toList.map eU8))),(1,(.own n54 0 0)),(1,(.fl (.slice none 0 0)))])) rfl (fun _=>(.cast (.fldS (.fld0 .here)) rfl)) (fun _=>rfl) (fun _=>rfl) fun n54=>?_
  refine .nilOwnFld 3 1 (fun n55=>(.st [(256,(.ar 1 (t7.f0.toList.map eU8))),(1,(Z28 n54 ([]:List (List Int)).length)),(1,(.own n55 0 0))])) rfl (fun _=>(.cast (.fldS (.fldS (.fld0 .here))) rfl)) (fun _=>rfl) (fun _=>rfl) fun n55=>?_
  refine .wH [1,2,4,5,24,25] (H':=[(n2,(.mem (e55 t7))),(Z15 n3 ((Vector.replicate 256 (0:Int)).toList.map eU8)),(Z6 n9 (t7.f0.toList.map eU8) n54 ([]:List (List Int)).length n55 ([]:List Int).length),(Z5 n54 ([]:List (List Int))),(n55,(Z3 ([]:List Int)))]) (.cons 2 rfl (.cons 2 rfl (.cons 2 rfl (.cons 1 rfl (.cons 0 rfl (.nil _)))))) ?_
  refine .loop (fun kq ρ H=>∃ (n16:Nat) (n18:Nat) (x17:(List (List Int))) (x19:(List Int)) (x20:Int),ρ=[(1,(.ptr n2 0)),(2,(.ptr n3 0)),(4,(.fz 1 (t8.map eI64))),(5,(.ptr n9 0)),(24,(eI64 (t7.f1.length:Int))),(25,(eI64 x20))]∧H=[(n2,(.mem (e55 t7))),(Z15 n3 ((Vector.replicate 256 (0:Int)).toList.map eU8)),(Z6 n9 (t7.f0.toList.map eU8) n16 x17.length n18 x19.length),(Z5 n16 x17),(n18,(Z3 x19))]∧F63_l5 k t7 t8 kq x17 x19 x20=some r) k ⟨n54,n55,([]:List (List Int)),([]:List Int),(0:Int),rfl,rfl,h⟩ ?_
  rintro kq22 _ _ ⟨n16,n18,x17,x19,x20,rfl,rfl,h⟩
  cases kq22 with
  | zero=>rw[F63_l5.eq_1]at h;cases h
  | succ kq22=>
  rw[F63_l5.eq_2]at h
  generalize hrec21:F63_l5 k t7 t8 kq22=rec21 at h
  refine .a 5 ?_
  rcases oi h with⟨c23,h⟩|⟨c23,h⟩
  ·refine .a 1 ?_
   refine .sK [1,2,4,5,24,25] ?_
   refine .seq_mid (fun ρ H=>∃ (n24:Nat) (n26:Nat) (x25:(List (List Int))) (x27:(List Int)),ρ=[(1,(.ptr n2 0)),(2,(.ptr n3 0)),(4,(.fz 1 (t8.map eI64))),(5,(.ptr n9 0)),(24,(eI64 (t7.f1.length:Int))),(25,(eI64 x20))]∧H=[(n2,(.mem (e55 t7))),(Z15 n3 ((Vector.replicate 256 (0:Int)).toList.map eU8)),(Z6 n9 (t7.f0.toList.map eU8) n24 x25.length n26 x27.length),(Z5 n24 x25),(n26,(Z3 x27))]∧F63_c1 k rec21 x20 x25 x27=some r) ?_ ?_
   ·refine .a 8 ?_
    refine .regQ (by rfl) (by decide+kernel) ?_
    refine .a 2 ?_
    obtain⟨g28,h⟩:=of_guard h
    refine .a 7 ?_
    rcases oi h with⟨c29,h⟩|⟨c29,h⟩
    ·refine .a 1 ?_
     refine .eK [1,2,4,5,24,25] ?_
     exact⟨n16,n18,x17,x19,rfl,rfl,h⟩
    refine .a 5 ?_
    refine .nK [1,2,4,5,6,7,24,25] ?_
    refine .seq_mid (fun ρ H=>∃ (n30:Nat) (x31:(List Int)),ρ=[(1,(.ptr n2 0)),(2,(.ptr n3 0)),(4,(.fz 1 (t8.map eI64))),(5,(.ptr n9 0)),(6,(eI64 x20)),(7,(.own n30 0 x31.length)),(24,(eI64 (t7.f1.length:Int))),(25,(eI64 x20))]∧H=[(n2,(.mem (e55 t7))),(Z15 n3 ((Vector.replicate 256 (0:Int)).toList.map eU8)),(Z6 n9 (t7.f0.toList.map eU8) n16 x17.length n18 x19.length),(Z5 n16 x17),(n18,(Z3 x19)),(n30,(Z3 x31))]∧F63_c2 k rec21 t7 x17 x19 x20 x31=some r) ?_ ?_
    ·refine .a 5 ?_
     obtain⟨g39,h⟩:=of_guard h
     refine .a 6 ?_
     refine .nilOwn 7 1 rfl fun n53=>?_
     refine .wH [1,2,4,5,6,7,24,25,40,41,42] (H':=[(n2,(.mem (e55 t7))),(Z15 n3 ((Vector.replicate 256 (0:Int)).toList.map eU8)),(Z6 n9 (t7.f0.toList.map eU8) n16 x17.length n18 x19.length),(Z5 n16 x17),(n18,(Z3 x19)),(n53,(Z3 ([]:List Int)))]) (.cons 1 rfl (.cons 1 rfl (.cons 1 rfl (.cons 1 rfl (.cons 1 rfl (.cons 0 rfl (.nil _))))))) ?_
     refine .loop (fun kq ρ H=>∃ (n40:Nat) (x41:(List Int)) (x42:Int),ρ=[(1,(.ptr n2 0)),(2,(.ptr n3 0)),(4,(.fz 1 (t8.map eI64))),(5,(.ptr n9 0)),(6,(eI64 x20)),(7,(.own n40 0 x41.length)),(24,(eI64 (t7.f1.length:Int))),(25,(eI64 x20)),(40,(Z23 (lget t7.f1 x20))),(41,(eI64 ((lget t7.f1 x20).length:Int))),(42,(eI64 x42))]∧H=[(n2,(.mem (e55 t7))),(Z15 n3 ((Vector.replicate 256 (0:Int)).toList.map eU8)),(Z6 n9 (t7.f0.toList.map eU8) n16 x17.length n18 x19.length),(Z5 n16 x17),(n18,(Z3 x19)),(n40,(Z3 x41))]∧F63_l4 k rec21 t7 t8 x17 x19 x20 kq x41 x42=some r) k ⟨n53,([]:List Int),(0:Int),rfl,rfl,h⟩ ?_
     rintro kq44 _ _ ⟨n40,x41,x42,rfl,rfl,h⟩
     cases kq44 with
     | zero=>rw[F63_l4.eq_1]at h;cases h
     | succ kq44=>
     rw[F63_l4.eq_2]at h
     generalize hrec43:F63_l4 k rec21 t7 t8 x17 x19 x20 kq44=rec43 at h
     refine .a 5 ?_
     rcases oi h with⟨c45,h⟩|⟨c45,h⟩
     ·refine .a 6 ?_
      obtain⟨g46,h⟩:=of_guard h
      refine .a 3 ?_
      refine .nK [1,2,4,5,6,7,9,24,25,40,41,42] ?_
      refine .seq_mid (fun ρ H=>∃ (x47:Int),ρ=[(1,(.ptr n2 0)),(2,(.ptr n3 0)),(4,(.fz 1 (t8.map eI64))),(5,(.ptr n9 0)),(6,(eI64 x20)),(7,(.own n40 0 x41.length)),(9,(eI64 x47)),(24,(eI64 (t7.f1.length:Int))),(25,(eI64 x20)),(40,(Z23 (lget t7.f1 x20))),(41,(eI64 ((lget t7.f1 x20).length:Int))),(42,(eI64 x42))]∧H=[(n2,(.mem (e55 t7))),(Z15 n3 ((Vector.replicate 256 (0:Int)).toList.map eU8)),(Z6 n9 (t7.f0.toList.map eU8) n16 x17.length n18 x19.length),(Z5 n16 x17),(n18,(Z3 x19)),(n40,(Z3 x41))]∧F63_c3 k rec43 x41 x42 x47=some r) ?_ ?_
      ·refine .a 5 ?_
       rcases oi h with⟨c51,h⟩|⟨c51,h⟩
       ·refine .a 4 ?_
        obtain⟨g52,h⟩:=of_guard h
        refine .a 3 ?_
        refine .nK [1,2,4,5,6,7,9,24,25,40,41,42] ?_
        exact⟨(lget t8 (lget (lget t7.f1 x20) x42)),rfl,rfl,h⟩
       refine .a 1 ?_
       refine .sK [1,2,4,5,6,7,9,24,25,40,41,42] ?_
       exact⟨(lget (lget t7.f1 x20) x42),rfl,rfl,h⟩
      rintro _ _ ⟨x47,rfl,rfl,h⟩
      rw[F63_c3.eq_1]at h
      refine .a 3 ?_
      refine .lit (Z:=(eI64 (0:Int))) (xs:=(([x47]:List Int).map eI64)) (qs:=[(0,(eI64 x47))]) rfl 54 rfl (by decide) rfl ⟨rfl,rfl,rfl,trivial⟩ Try.underlying35 sz3 zr3 lay3 rfl (by decide) (litOK (z:=1) [(eI64 x47)] rfl ⟨⟨rfl,rfl⟩,trivial⟩) rfl fun n48=>?_
      obtain⟨g50,h⟩:=of_guard h
      refine .appendL (l:=x41) (m:=([x47]:List Int)) 6 55 rfl (by decide) rfl rfl rfl rfl rfl (Src.ownL (f:=eI64) (l:=([x47]:List Int)) 0 rfl) Try.underlying35 Try.underlying35 sz3 by3 zr3 rfl g50 (by decide) fun n49=>?_
      refine .a 1 ?_
      refine .nS [1,2,4,5,6,7,24,25,40,41,42] [1,2,3,4,5,6] ?_
      refine .a 3 ?_
      refine .nK [1,2,4,5,6,7,24,25,40,41,42] ?_
      exact⟨kq44,Nat.lt_succ_self _,n49,(x41++([x47]:List Int)),(w64 (x42+(1:Int))),rfl,rfl,by rw[hrec43];exact h⟩
     refine .a 1 ?_
     refine .eK [1,2,4,5,6,7,24,25] ?_
     exact⟨n40,x41,rfl,rfl,h⟩
    rintro _ _ ⟨n30,x31,rfl,rfl,h⟩
    rw[F63_c2.eq_1]at h
    refine .a 5 ?_
    refine .freezeS 5 [(7,(.fz 1 (x31.map eI64))),(59,(.fz 1 (x31.map eI64)))] rfl ⟨fz_all rfl,fz_all rfl,trivial⟩ ?_
    refine .lit (Z:=(.fl (.slice none 0 0))) (xs:=(([x31]:List (List Int)).map e35)) (qs:=[(0,(.fz 1 (x31.map eI64)))]) rfl 60 rfl (by decide) rfl ⟨rfl,rfl,rfl,trivial⟩ Try.underlying53 sz35 zr35 lay35 rfl (by decide) (litOK (z:=1) [(.fz 1 (x31.map eI64))] rfl ⟨⟨rfl,rfl⟩,trivial⟩) rfl fun n32=>?_
    obtain⟨g34,h⟩:=of_guard h
    refine .appendL (l:=x17) (m:=([x31]:List (List Int))) 4 61 rfl (by decide) rfl rfl rfl rfl rfl (Src.ownL (f:=e35) (l:=([x31]:List (List Int))) 0 rfl) Try.underlying53 Try.underlying53 sz35 by35 zr35 rfl g34 (by decide) fun n33=>?_
    refine .a 1 ?_
    refine .store 3 rfl rfl rfl rfl rfl rfl (.cast (.fldS (.fld0 .here)) rfl) rfl rfl sz53 rfl ?_
    refine .nS [1,2,4,5,6,24,25] [1,2,3,4,5] ?_
    obtain⟨g35,h⟩:=of_guard h
    obtain⟨g38,h⟩:=of_guard h
    refine .regEff (by rfl) (by decide+kernel) (fun (σ:Nat→Nat)=>([(.ptr n9 257),(.own n18 0 x19.length),(.ptr n2 257),(Z23 t7.f2),(eI64 x20),(.rp (eI64 (lget t7.f2 x20))),(eI64 (lget t7.f2 x20)),(Z23 ([(lget t7.f2 x20)]:List Int)),(Z28 (σ 8) (x19++([(lget t7.f2 x20)]:List Int)).length),(.ptr n9 257),(.fl undef)]:List AV)) (fun (L:Nat→Bool) (σ:Nat→Nat)=>((n2,(.mem (e55 t7)))::(Z15 n3 ((Vector.replicate 256 (0:Int)).toList.map eU8))::(Z5 n33 (x17++([x31]:List (List Int))))::(bif L 8 then(bif L 10 then((Z6 n9 (t7.f0.toList.map eU8) n33 (x17++([x31]:List (List Int))).length (σ 8) (x19++([(lget t7.f2 x20)]:List Int)).length)::((σ 8),(Z3 (x19++([(lget t7.f2 x20)]:List Int))))::[])else((Z6 n9 (t7.f0.toList.map eU8) n33 (x17++([x31]:List (List Int))).length n18 x19.length)::((σ 8),(Z3 (x19++([(lget t7.f2 x20)]:List Int))))::[]))else((Z6 n9 (t7.f0.toList.map eU8) n33 (x17++([x31]:List (List Int))).length n18 x19.length)::(n18,(Z3 x19))::[])):Heap)) [(1,(.ptr n2 0)),(2,(.ptr n3 0)),(4,(.fz 1 (t8.map eI64))),(5,(.ptr n9 0)),(6,(eI64 x20)),(24,(eI64 (t7.f1.length:Int))),(25,(eI64 x20))] ⟨rfl,rfl,rfl,rfl,rfl,rfl,rfl,trivial⟩ (fun _=>rfl) (fun σ=>(.cons 0 rfl (.cons 0 rfl (.cons 1 rfl (.cons 0 rfl (.cons 0 rfl (.refl _))))))) ⟨?_,?_,?_,?_,?_,?_,?_,?_,?_,?_,?_,trivial⟩ (fun σ=>[(1,(.ptr n2 0)),(2,(.ptr n3 0)),(4,(.fz 1 (t8.map eI64))),(5,(.ptr n9 0)),(24,(eI64 (t7.f1.length:Int))),(25,(eI64 x20))]) (fun σ=>((n2,(.mem (e55 t7)))::(Z15 n3 ((Vector.replicate 256 (0:Int)).toList.map eU8))::(Z5 n33 (x17++([x31]:List (List Int))))::(Z6 n9 (t7.f0.toList.map eU8) n33 (x17++([x31]:List (List Int))).length (σ 8) (x19++([(lget t7.f2 x20)]:List Int)).length)::((σ 8),(Z3 (x19++([(lget t7.f2 x20)]:List Int))))::[])) (fun σ=>⟨rfl,rfl,rfl,rfl,rfl,rfl,trivial⟩) (fun σ=>.refl _) (fun σ=>?_)
    ·refine .calm (fun _ _=>rfl) fun L σ hc hi hd=>?_
     have m1:L 1=false:=hc.neg (i:=0) (j:=1) rfl (by rfl) hi
     have m8:L 8=false:=hc.neg (i:=1) (j:=8) rfl (by rfl) m1
     have m10:L 10=false:=hc.neg (i:=0) (j:=10) rfl (by rfl) hi
     refine .heq (H':=((n2,(.mem (e55 t7)))::(Z15 n3 ((Vector.replicate 256 (0:Int)).toList.map eU8))::(Z5 n33 (x17++([x31]:List (List Int))))::(Z6 n9 (t7.f0.toList.map eU8) n33 (x17++([x31]:List (List Int))).length n18 x19.length)::(n18,(Z3 x19))::[])) (by first|rfl|simp only[m8,m10,cond_true,cond_false]) ?_
     refine .a 1 ?_
     exact .nE (d:=63) rfl ⟨⟨63,_,rfl,rfl,rfl⟩,.of_eq (by first|rfl|simp only[m8,m10,cond_true,cond_false]) (.refl _)⟩
    ·refine .calm (fun _ _=>rfl) fun L σ hc hi hd=>?_
     have m8:L 8=false:=hc.neg (i:=1) (j:=8) rfl (by rfl) hi
     have m10:L 10=false:=hc.neg (i:=1) (j:=10) rfl (by rfl) hi
     refine .heq (H':=((n2,(.mem (e55 t7)))::(Z15 n3 ((Vector.replicate 256 (0:Int)).toList.map eU8))::(Z5 n33 (x17++([x31]:List (List Int))))::(Z6 n9 (t7.f0.toList.map eU8) n33 (x17++([x31]:List (List Int))).length n18 x19.length)::(n18,(Z3 x19))::[])) (by first|rfl|simp only[m8,m10,cond_true,cond_false]) ?_
     refine .a 1 ?_
     exact .nE (d:=64) rfl ⟨⟨64,_,rfl,rfl,rfl⟩,.of_eq (by first|rfl|simp only[m8,m10,cond_true,cond_false]) (.refl _)⟩
    ·refine .calm (fun _ _=>rfl) fun L σ hc hi hd=>?_
     refine .a 1 ?_
     exact .nE (d:=65) rfl ⟨⟨65,_,rfl,rfl,rfl⟩,.refl _⟩
    ·refine .calm (fun _ _=>rfl) fun L σ hc hi hd=>?_
     refine .a 1 ?_
     exact .nE (d:=66) rfl ⟨⟨66,_,rfl,rfl,rfl⟩,.refl _⟩
    ·refine .calm (fun _ _=>rfl) fun L σ hc hi hd=>?_
     refine .a 1 ?_
     exact .nE (d:=67) rfl ⟨⟨67,_,rfl,rfl,rfl⟩,.refl _⟩
    ·refine .calm (fun _ _=>rfl) fun L σ hc hi hd=>?_
     refine .a 1 ?_
     exact .nE (d:=68) rfl ⟨⟨68,_,rfl,rfl,rfl⟩,.refl _⟩
    ·refine .calm (fun _ _=>rfl) fun L σ hc hi hd=>?_
     refine .a 1 ?_
     exact .nE (d:=69) rfl ⟨⟨69,_,rfl,rfl,rfl⟩,.refl _⟩
    ·refine .calm (fun _ _=>rfl) fun L σ hc hi hd=>?_
     refine .wK [69] ?_
     refine .lit (Z:=(eI64 (0:Int))) (xs:=(([(lget t7.f2 x20)]:List Int).map eI64)) (qs:=[(0,(eI64 (lget t7.f2 x20)))]) rfl 70 rfl (by decide) rfl ⟨rfl,rfl,rfl,trivial⟩ Try.underlying35 sz3 zr3 lay3 rfl (by decide) (litOK (z:=1) [(eI64 (lget t7.f2 x20))] rfl ⟨⟨rfl,rfl⟩,trivial⟩) rfl fun n36=>?_
     refine .freezeS 0 [(70,(Z23 ([(lget t7.f2 x20)]:List Int)))] rfl ⟨fz_all rfl,trivial⟩ ?_
     exact .nE (d:=70) rfl ⟨⟨70,_,rfl,rfl,rfl⟩,.refl _⟩
    ·intro L σ hc hi hd
     have m10:L 10=false:=hc.neg (i:=8) (j:=10) rfl (by rfl) hi
     refine .heq (H':=((n2,(.mem (e55 t7)))::(Z15 n3 ((Vector.replicate 256 (0:Int)).toList.map eU8))::(Z5 n33 (x17++([x31]:List (List Int))))::(Z6 n9 (t7.f0.toList.map eU8) n33 (x17++([x31]:List (List Int))).length n18 x19.length)::(n18,(Z3 x19))::[])) (by first|rfl|simp only[hi,m10,cond_true,cond_false]) ?_
     refine .wK [64,70] ?_
     refine .appendL (l:=x19) (m:=([(lget t7.f2 x20)]:List Int)) 4 71 rfl (by decide) rfl rfl rfl rfl rfl Src.fz Try.underlying35 Try.underlying35 sz3 by3 zr3 rfl g38 (by decide) fun n37=>?_
     have a8:addL L 8 8=true:=rfl
     have a10:addL L 8 10=false:=m10
     have u8:upd σ 8 n37 8=n37:=rfl
     exact .nE (d:=71) rfl ⟨(upd σ 8 n37),(fun j hj=>match j,hj with |0,_=>rfl|1,_=>rfl|2,_=>rfl|3,_=>rfl|4,_=>rfl|5,_=>rfl|6,_=>rfl|7,_=>rfl|8,hj=>Bool.noConfusion (hj.symm.trans hi)|9,_=>rfl|10,_=>rfl|_+11,_=>rfl),(fun d' hd'=>⟨_,rfl,by cases hd';rfl⟩),.of_eq (B:=((n2,(.mem (e55 t7)))::(Z15 n3 ((Vector.replicate 256 (0:Int)).toList.map eU8))::(Z5 n33 (x17++([x31]:List (List Int))))::(Z6 n9 (t7.f0.toList.map eU8) n33 (x17++([x31]:List (List Int))).length n18 x19.length)::(n37,(Z3 (x19++([(lget t7.f2 x20)]:List Int))))::[])) (by simp only[a8,a10,u8,cond_true,cond_false]) (.refl _)⟩
    ·refine .calm (fun _ _=>rfl) fun L σ hc hi hd=>?_
     have y8:L 8=true:=on_get hd (i:=8) (by rfl)
     have m10:L 10=false:=hc.neg (i:=9) (j:=10) rfl (by rfl) hi
     refine .heq (H':=((n2,(.mem (e55 t7)))::(Z15 n3 ((Vector.replicate 256 (0:Int)).toList.map eU8))::(Z5 n33 (x17++([x31]:List (List Int))))::(Z6 n9 (t7.f0.toList.map eU8) n33 (x17++([x31]:List (List Int))).length n18 x19.length)::((σ 8),(Z3 (x19++([(lget t7.f2 x20)]:List Int))))::[])) (by first|rfl|simp only[y8,m10,cond_true,cond_false]) ?_
     refine .a 1 ?_
     exact .nE (d:=72) rfl ⟨⟨72,_,rfl,rfl,rfl⟩,.of_eq (by first|rfl|simp only[y8,m10,cond_true,cond_false]) (.refl _)⟩
    ·intro L σ hc hi hd
     have y8:L 8=true:=on_get hd (i:=8) (by rfl)
     refine .heq (H':=((n2,(.mem (e55 t7)))::(Z15 n3 ((Vector.replicate 256 (0:Int)).toList.map eU8))::(Z5 n33 (x17++([x31]:List (List Int))))::(Z6 n9 (t7.f0.toList.map eU8) n33 (x17++([x31]:List (List Int))).length n18 x19.length)::((σ 8),(Z3 (x19++([(lget t7.f2 x20)]:List Int))))::[])) (by first|rfl|simp only[hi,y8,cond_true,cond_false]) ?_
     refine .wK [71,72] ?_
     refine .store 3 rfl rfl rfl rfl rfl rfl (.cast (.fldS (.fldS (.fld0 .here))) rfl) rfl rfl sz35 rfl ?_
     have a8:addL L 10 8=true:=y8
     have a10:addL L 10 10=true:=rfl
     exact .n0 ⟨σ,(fun _ _=>rfl),(fun d' hd'=>by cases hd'),.of_eq (B:=((n2,(.mem (e55 t7)))::(Z15 n3 ((Vector.replicate 256 (0:Int)).toList.map eU8))::(Z5 n33 (x17++([x31]:List (List Int))))::(Z6 n9 (t7.f0.toList.map eU8) n33 (x17++([x31]:List (List Int))).length (σ 8) (x19++([(lget t7.f2 x20)]:List Int)).length)::((σ 8),(Z3 (x19++([(lget t7.f2 x20)]:List Int))))::[])) (by simp only[a8,a10,cond_true,cond_false]) (.refl _)⟩
    generalize σ 8=n37
    refine .nS [1,2,4,5,24,25] [0,1,3,2,4] ?_
    exact⟨n33,n37,(x17++([x31]:List (List Int))),(x19++([(lget t7.f2 x20)]:List Int)),rfl,rfl,h⟩
   rintro _ _ ⟨n24,n26,x25,x27,rfl,rfl,h⟩
   rw[F63_c1.eq_1]at h
   refine .a 3 ?_
   refine .nK [1,2,4,5,24,25] ?_
   exact⟨kq22,Nat.lt_succ_self _,n24,n26,x25,x27,(w64 (x20+(1:Int))),rfl,rfl,by rw[hrec21];exact h⟩
  refine .a 1 ?_
  refine .eH [2,5] (H':=[(Z15 n3 ((Vector.replicate 256 (0:Int)).toList.map eU8)),(Z6 n9 (t7.f0.toList.map eU8) n16 x17.length n18 x19.length),(Z5 n16 x17),(n18,(Z3 x19))]) (.cons 1 rfl (.cons 1 rfl (.cons 1 rfl (.cons 1 rfl (.nil _))))) ?_
  exact⟨n16,n18,x17,x19,rfl,rfl,h⟩
 rintro _ _ ⟨n10,n12,x11,x13,rfl,rfl,h⟩
 rw[F63_c0.eq_1]at h
 refine .sr ?_
 refine .freezeFld (X':=(.st [(256,(.ar 1 (t7.f0.toList.map eU8))),(1,(.fz 1 (x11.map e35))),(1,(.own n12 0 x13.length))])) (els':=(x11.map e35)) 2 1 rfl rfl (.cast (.fldS (.fld0 .here)) rfl) (by simp) (by rw[own_all]) rfl rfl (by decide) ?_
 refine .freezeFld (X':=(Z16 (t7.f0.toList.map eU8) x11 x13)) (els':=(x13.map eI64)) 2 1 rfl rfl (.cast (.fldS (.fldS (.fld0 .here))) rfl) (by simp) (by rw[own_all]) rfl rfl (by decide) ?_
 refine .a 1 ?_
 obtain⟨t14,et14,h⟩:=ob h
 refine .callS [(e55 (S55.mk t7.f0 x11 x13))] (e55 t14) 75 rfl (by decide) ok82 rfl rfl rfl ⟨rfl,rfl,trivial⟩ (F82_spec et14) ?_
 obtain⟨t15,et15,h⟩:=ob h
 refine .callS [(e55 t14)] (e55 t15) 76 rfl (by decide) ok79 rfl rfl rfl ⟨rfl,rfl,trivial⟩ (F79_spec et15) ?_
 refine .store 0 rfl rfl rfl rfl rfl rfl (.cast .here rfl) rfl rfl sz55 rfl ?_
 refine .a 1 ?_
 refine .nS [2,3] [0] ?_
 refine .rK [2,3] ?_
 have hr:=Option.some.inj h
 subst hr
 exact⟨[(e55 t15),(eI64 (0:Int))],⟨⟨_,0,rfl,rfl,ag55,sz55⟩,rfl,rfl,trivial⟩,rfl⟩
end Go.Avl.T7
namespace Go.Avl.T7
open Go Go.RowKit Go.Proofs Go.Avl
set_option linter.unusedVariables false
set_option maxRecDepth 100000
set_option maxHeartbeats 4000000
attribute [local irreducible] AW AO AQ Spec SpecH Calm
def F55_c0 (k:Nat) (t7:(S121×(List Int))) (x12:(List Int)):Option (S55×Int):=
 (F76 k t7.1 x12).bind fun t13=>
 if t13.2≠(0:Int)then some ((S55.mk (Vector.replicate 256 (0:Int)) ([]:List (List Int)) ([]:List Int)),t13.2)
 else(F63 k t13.1).bind fun t16=>
 some (t16.1,t16.2)
def F55_l1 (k:Nat) (t7:(S121×(List Int))):Nat→(List Int)→Int→Option (S55×Int)
 | 0,_,_=>none
 | j+1,x17,x18=>
   if x18<(t7.2.length:Int)then if 0≤x18∧x18<(t7.2.length:Int)then if 0≤(lget t7.2 x18)∧(lget t7.2 x18)<(x17.length:Int)then(F55_l1 k t7 j) (lset x17 (lget t7.2 x18) x18) (w64 (x18+(1:Int)))
   else none
   else none
   else F55_c0 k t7 x17
def F55_c2 (k:Nat) (t7:(S121×(List Int))) (x11:(List Int)):Option (S55×Int):=
 F55_l1 k t7 k x11 (0:Int)
def F55_l3 (k:Nat) (t7:(S121×(List Int))):Nat→(List Int)→Int→Option (S55×Int)
 | 0,_,_=>none
 | j+1,x24,x25=>
   if x25<((List.replicate t7.1.f0.toNat (0:Int)).length:Int)then if 0≤x25∧x25<(x24.length:Int)then(F55_l3 k t7 j) (lset x24 x25 (-1:Int)) (w64 (x25+(1:Int)))
   else none
   else F55_c2 k t7 x24
def F55_c4 (k:Nat) (x6:(List S121)):Option (S55×Int):=
 (F75 k x6).bind fun t7=>
 if 0≤t7.1.f0∧t7.1.f0*(8:Int)≤140737488355328∧t7.1.f0≤9223372036854775807 then F55_l3 k t7 k (List.replicate t7.1.f0.toNat (0:Int)) (0:Int)
 else none
def F55_l5 (k:Nat) (p0:(List S82)):Nat→(List S121)→Int→Option (S55×Int)
 | 0,_,_=>none
 | j+1,x31,x32=>
   if x32<(p0.length:Int)then if 0≤x32∧x32<(p0.length:Int)then(F73 k ((lget p0 x32).f2)).bind fun t38=>
   (F74 k t38.1).bind fun t39=>
   if t39.2≠(0:Int)then some ((S55.mk (Vector.replicate 256 (0:Int)) ([]:List (List Int)) ([]:List Int)),t39.2)
   else if(x31++([t39.1]:List S121)).length*48≤140737488355328 then(F55_l5 k p0 j) (x31++([t39.1]:List S121)) (w64 (x32+(1:Int)))
   else none
   else none
   else F55_c4 k x31
def F55 (k:Nat) (p0:(List S82)):Option (S55×Int):=
 (F39 k p0).bind fun t3=>
 if t3.2≠(0:Int)then some ((S55.mk (Vector.replicate 256 (0:Int)) ([]:List (List Int)) ([]:List Int)),t3.2)
 else F55_l5 k p0 k ([]:List S121) (0:Int)
theorem F55_spec {k:Nat} {p0:(List S82)} {r:(S55×Int)} (h:F55 k p0=some r):Spec Try.prog 55 [(.fz 3 (p0.map e82))] (.tup [(e55 r.1),(eI64 r.2)]):=by
 rw[F55.eq_1]at h
 refine Spec.intro (res:=[.cell 2 55,.tmp 3]) Try.func55 rfl rfl rfl (Nat.le_of_ble_eq_true rfl) ?_
 refine .sr ?_
 refine .alloc rfl 2 rfl (by decide) rfl zr55 lay55 fun n2=>?_
 refine .a 6 ?_
 obtain⟨t3,et3,h⟩:=ob h
 refine .callS [(.fz 3 (p0.map e82))] (.tup [(eI64 t3.1),(eI64 t3.2)]) 23 rfl (by decide) ok39 rfl rfl rfl ⟨rfl,rfl,trivial⟩ (F39_spec et3) ?_
 refine .a 11 ?_
 rcases oi h with⟨c4,h⟩|⟨c4,h⟩
 ·refine .a 3 ?_
  refine .c (x:=(Z0 ((Vector.replicate 256 (0:Int)).toList.map eU8))) (.build (qs:=[]) rfl trivial Try.underlying55 rfl zr55 lay55 .nil rfl) ?_
  refine .a 1 ?_
  refine .store 0 rfl rfl rfl rfl rfl rfl (.cast .here rfl) rfl rfl sz55 rfl ?_
  refine .a 1 ?_
  refine .nK [2,3] ?_
  refine .coeFld (X':=(Z22 ((Vector.replicate 256 (0:Int)).toList.map eU8) ([]:List (List Int)))) 0 rfl (.cast (.fldS (.fld0 .here)) rfl) rfl (nil_fz 1) rfl rfl ?_
  refine .coeFld (X':=(Z16 ((Vector.replicate 256 (0:Int)).toList.map eU8) ([]:List (List Int)) ([]:List Int))) 0 rfl (.cast (.fldS (.fldS (.fld0 .here))) rfl) rfl (nil_fz 1) rfl rfl ?_
  refine .rK [2,3] ?_
  cases h
  exact⟨[(e55 (S55.mk (Vector.replicate 256 (0:Int)) ([]:List (List Int)) ([]:List Int))),(eI64 t3.2)],⟨⟨_,0,rfl,rfl,ag55,sz55⟩,rfl,rfl,trivial⟩,rfl⟩
 refine .a 5 ?_
 refine .nK [0,2,6] ?_
 refine .seq_mid (fun ρ H=>∃ (n5:Nat) (x6:(List S121)),ρ=[(2,(.ptr n2 0)),(6,(.own n5 0 x6.length))]∧H=[(Z15 n2 ((Vector.replicate 256 (0:Int)).toList.map eU8)),(n5,(.mem (.ar 4 (x6.map e121))))]∧F55_c4 k x6=some r) ?_ ?_
 ·refine .a 7 ?_
  refine .nilOwn 6 4 rfl fun n45=>?_
  refine .wH [2,6,30,31,32] (H':=[(Z15 n2 ((Vector.replicate 256 (0:Int)).toList.map eU8)),(n45,(.mem (.ar 4 (([]:List S121).map e121))))]) (.cons 1 rfl (.cons 0 rfl (.nil _))) ?_
  refine .loop (fun kq ρ H=>∃ (n30:Nat) (x31:(List S121)) (x32:Int),ρ=[(2,(.ptr n2 0)),(6,(.own n30 0 x31.length)),(30,(.fz 3 (p0.map e82))),(31,(eI64 (p0.length:Int))),(32,(eI64 x32))]∧H=[(Z15 n2 ((Vector.replicate 256 (0:Int)).toList.map eU8)),(n30,(.mem (.ar 4 (x31.map e121))))]∧F55_l5 k p0 kq x31 x32=some r) k ⟨n45,([]:List S121),(0:Int),rfl,rfl,h⟩ ?_
  rintro kq34 _ _ ⟨n30,x31,x32,rfl,rfl,h⟩
  cases kq34 with
  | zero=>rw[F55_l5.eq_1]at h;cases h
  | succ kq34=>
  rw[F55_l5.eq_2]at h
  generalize hrec33:F55_l5 k p0 kq34=rec33 at h
  refine .a 5 ?_
  rcases oi h with⟨c35,h⟩|⟨c35,h⟩
  ·refine .a 6 ?_
   obtain⟨g36,h⟩:=of_guard h
   refine .a 2 ?_
   refine .alloc rfl 8 rfl (by decide) rfl zr82 lay82 fun n37=>?_
   refine .store 0 rfl rfl rfl rfl rfl rfl (.cast .here rfl) rfl rfl sz82 rfl ?_
   refine .nS [2,6,8,30,31,32] [1,2,0] ?_
   refine .a 4 ?_
   obtain⟨t38,et38,h⟩:=ob h
   refine .callS [(eStr ((lget p0 x32).f2))] (.tup [(Z11 t38.1),(eI64 t38.2)]) 39 rfl (by decide) ok73 rfl rfl rfl ⟨rfl,rfl,trivial⟩ (F73_spec et38) ?_
   refine .a 5 ?_
   refine .nS [2,6,9,30,31,32] [0,1] ?_
   refine .a 3 ?_
   obtain⟨t39,et39,h⟩:=ob h
   refine .callS [(Z11 t38.1)] (.tup [(e121 t39.1),(eI64 t39.2)]) 44 rfl (by decide) ok74 rfl rfl rfl ⟨rfl,rfl,trivial⟩ (F74_spec et39) ?_
   refine .a 3 ?_
   refine .alloc rfl 11 rfl (by decide) rfl zr121 lay121 fun n40=>?_
   refine .store 0 rfl rfl rfl rfl rfl rfl (.cast .here rfl) rfl rfl sz121 rfl ?_
   refine .a 1 ?_
   refine .nS [2,6,11,12,30,31,32] [1,2,0] ?_
   refine .a 6 ?_
   rcases oi h with⟨c41,h⟩|⟨c41,h⟩
   ·refine .a 3 ?_
    refine .c (x:=(Z0 ((Vector.replicate 256 (0:Int)).toList.map eU8))) (.build (qs:=[]) rfl trivial Try.underlying55 rfl zr55 lay55 .nil rfl) ?_
    refine .a 1 ?_
    refine .store 0 rfl rfl rfl rfl rfl rfl (.cast .here rfl) rfl rfl sz55 rfl ?_
    refine .a 1 ?_
    refine .nS [2,3] [0] ?_
    refine .coeFld (X':=(Z22 ((Vector.replicate 256 (0:Int)).toList.map eU8) ([]:List (List Int)))) 0 rfl (.cast (.fldS (.fld0 .here)) rfl) rfl (nil_fz 1) rfl rfl ?_
    refine .coeFld (X':=(Z16 ((Vector.replicate 256 (0:Int)).toList.map eU8) ([]:List (List Int)) ([]:List Int))) 0 rfl (.cast (.fldS (.fldS (.fld0 .here))) rfl) rfl (nil_fz 1) rfl rfl ?_
    refine .rK [2,3] ?_
    cases h
    exact⟨[(e55 (S55.mk (Vector.replicate 256 (0:Int)) ([]:List (List Int)) ([]:List Int))),(eI64 t39.2)],⟨⟨_,0,rfl,rfl,ag55,sz55⟩,rfl,rfl,trivial⟩,rfl⟩
   refine .a 5 ?_
   refine .lit (Z:=(Z7 (0:Int))) (xs:=(([t39.1]:List S121).map e121)) (qs:=[(0,(e121 t39.1))]) rfl 53 rfl (by decide) rfl ⟨rfl,rfl,rfl,trivial⟩ Try.underlying116 sz121 zr121 lay121 rfl (by decide) (litOK (z:=4) [(e121 t39.1)] rfl ⟨⟨rfl,rfl⟩,trivial⟩) rfl fun n42=>?_
   obtain⟨g44,h⟩:=of_guard h
   refine .appendL (l:=x31) (m:=([t39.1]:List S121)) 2 54 rfl (by decide) rfl rfl rfl rfl rfl (Src.ownL (f:=e121) (l:=([t39.1]:List S121)) 0 rfl) Try.underlying116 Try.underlying116 sz121 by121 zr121 rfl g44 (by decide) fun n43=>?_
   refine .a 1 ?_
   refine .nS [2,6,30,31,32] [1,2] ?_
   refine .a 3 ?_
   refine .nK [2,6,30,31,32] ?_
   exact⟨kq34,Nat.lt_succ_self _,n43,(x31++([t39.1]:List S121)),(w64 (x32+(1:Int))),rfl,rfl,by rw[hrec33];exact h⟩
  refine .a 1 ?_
  refine .eK [2,6] ?_
  exact⟨n30,x31,rfl,rfl,h⟩
 rintro _ _ ⟨n5,x6,rfl,rfl,h⟩
 rw[F55_c4.eq_1]at h
 refine .a 3 ?_
 obtain⟨t7,et7,h⟩:=ob h
 refine .freezeS 1 [(6,(.fz 4 (x6.map e121))),(57,(.fz 4 (x6.map e121)))] rfl ⟨fz_all rfl,fz_all rfl,trivial⟩ ?_
 refine .callS [(.fz 4 (x6.map e121))] (.tup [(e121 t7.1),(.fz 1 (t7.2.map eI64))]) 58 rfl (by decide) ok75 rfl rfl rfl ⟨rfl,rfl,trivial⟩ (F75_spec et7) ?_
 refine .a 3 ?_
 refine .alloc rfl 13 rfl (by decide) rfl zr121 lay121 fun n8=>?_
 refine .store 0 rfl rfl rfl rfl rfl rfl (.cast .here rfl) rfl rfl sz121 rfl ?_
 refine .a 1 ?_
 refine .nS [2,13,14] [1,0] ?_
 refine .a 4 ?_
 obtain⟨g10,h⟩:=of_guard h
 refine .makeL (f:=eI64) (0:Int) rfl 63 rfl (by decide) rfl rfl rfl Try.underlying35 sz3 by3 zr3 lay3 rfl g10 fun n9=>?_
 refine .a 1 ?_
 refine .nS [2,13,14,15] [1,2,0] ?_
 refine .seq_mid (fun ρ H=>∃ (x11:(List Int)),ρ=[(2,(.ptr n2 0)),(13,(.ptr n8 0)),(14,(.fz 1 (t7.2.map eI64))),(15,(.own n9 0 x11.length))]∧H=[(Z15 n2 ((Vector.replicate 256 (0:Int)).toList.map eU8)),(n8,(.mem (e121 t7.1))),(n9,(Z3 x11))]∧F55_c2 k t7 x11=some r) ?_ ?_
 ·refine .a 7 ?_
  refine .wK [2,13,14,15,65,66] ?_
  refine .loop (fun kq ρ H=>∃ (x24:(List Int)) (x25:Int),ρ=[(2,(.ptr n2 0)),(13,(.ptr n8 0)),(14,(.fz 1 (t7.2.map eI64))),(15,(.own n9 0 x24.length)),(65,(eI64 ((List.replicate t7.1.f0.toNat (0:Int)).length:Int))),(66,(eI64 x25))]∧H=[(Z15 n2 ((Vector.replicate 256 (0:Int)).toList.map eU8)),(n8,(.mem (e121 t7.1))),(n9,(Z3 x24))]∧F55_l3 k t7 kq x24 x25=some r) k ⟨(List.replicate t7.1.f0.toNat (0:Int)),(0:Int),rfl,rfl,h⟩ ?_
  rintro kq27 _ _ ⟨x24,x25,rfl,rfl,h⟩
  cases kq27 with
  | zero=>rw[F55_l3.eq_1]at h;cases h
  | succ kq27=>
  rw[F55_l3.eq_2]at h
  generalize hrec26:F55_l3 k t7 kq27=rec26 at h
  refine .a 5 ?_
  rcases oi h with⟨c28,h⟩|⟨c28,h⟩
  ·refine .a 12 ?_
   obtain⟨g29,h⟩:=of_guard h
   refine .a 1 ?_
   refine .store 2 rfl rfl rfl rfl rfl rfl (.cast (.lidx x25 (-1:Int) g29.1 g29.2 .here) (by omega)) rfl rfl sz3 rfl ?_
   refine .coe 15 (y':=(Z28 n9 (lset x24 x25 (-1:Int)).length)) rfl (fun _ _ h=>lset_own h) ?_
   refine .coe 69 (y':=(Z28 n9 (lset x24 x25 (-1:Int)).length)) rfl (fun _ _ h=>lset_own h) ?_
   refine .a 4 ?_
   refine .nK [2,13,14,15,65,66] ?_
   exact⟨kq27,Nat.lt_succ_self _,(lset x24 x25 (-1:Int)),(w64 (x25+(1:Int))),rfl,rfl,by rw[hrec26];exact h⟩
  refine .a 1 ?_
  refine .eK [2,13,14,15] ?_
  exact⟨x24,rfl,rfl,h⟩
 rintro _ _ ⟨x11,rfl,rfl,h⟩
 rw[F55_c2.eq_1]at h
 refine .seq_mid (fun ρ H=>∃ (x12:(List Int)),ρ=[(2,(.ptr n2 0)),(13,(.ptr n8 0)),(15,(.own n9 0 x12.length))]∧H=[(Z15 n2 ((Vector.replicate 256 (0:Int)).toList.map eU8)),(n8,(.mem (e121 t7.1))),(n9,(Z3 x12))]∧F55_c0 k t7 x12=some r) ?_ ?_
 ·refine .a 7 ?_
  refine .wK [2,13,15,73,74,75] ?_
  refine .loop (fun kq ρ H=>∃ (x17:(List Int)) (x18:Int),ρ=[(2,(.ptr n2 0)),(13,(.ptr n8 0)),(15,(.own n9 0 x17.length)),(73,(.fz 1 (t7.2.map eI64))),(74,(eI64 (t7.2.length:Int))),(75,(eI64 x18))]∧H=[(Z15 n2 ((Vector.replicate 256 (0:Int)).toList.map eU8)),(n8,(.mem (e121 t7.1))),(n9,(Z3 x17))]∧F55_l1 k t7 kq x17 x18=some r) k ⟨x11,(0:Int),rfl,rfl,h⟩ ?_
  rintro kq20 _ _ ⟨x17,x18,rfl,rfl,h⟩
  cases kq20 with
  | zero=>rw[F55_l1.eq_1]at h;cases h
  | succ kq20=>
  rw[F55_l1.eq_2]at h
  generalize hrec19:F55_l1 k t7 kq20=rec19 at h
  refine .a 5 ?_
  rcases oi h with⟨c21,h⟩|⟨c21,h⟩
  ·refine .a 7 ?_
   obtain⟨g22,h⟩:=of_guard h
   refine .a 9 ?_
   obtain⟨g23,h⟩:=of_guard h
   refine .a 1 ?_
   refine .store 2 rfl rfl rfl rfl rfl rfl (.cast (.lidx (lget t7.2 x18) x18 g23.1 g23.2 .here) (by omega)) rfl rfl sz3 rfl ?_
   refine .coe 15 (y':=(Z28 n9 (lset x17 (lget t7.2 x18) x18).length)) rfl (fun _ _ h=>lset_own h) ?_
   refine .coe 80 (y':=(Z28 n9 (lset x17 (lget t7.2 x18) x18).length)) rfl (fun _ _ h=>lset_own h) ?_
   refine .a 4 ?_
   refine .nK [2,13,15,73,74,75] ?_
   exact⟨kq20,Nat.lt_succ_self _,(lset x17 (lget t7.2 x18) x18),(w64 (x18+(1:Int))),rfl,rfl,by rw[hrec19];exact h⟩
  refine .a 1 ?_
  refine .eK [2,13,15] ?_
  exact⟨x17,rfl,rfl,h⟩
 rintro _ _ ⟨x12,rfl,rfl,h⟩
 rw[F55_c0.eq_1]at h
 refine .a 4 ?_
 obtain⟨t13,et13,h⟩:=ob h
 refine .freezeS 2 [(15,(.fz 1 (x12.map eI64))),(87,(.fz 1 (x12.map eI64)))] rfl ⟨fz_all rfl,fz_all rfl,trivial⟩ ?_
 refine .callS [(e121 t7.1),(.fz 1 (x12.map eI64))] (.tup [(e55 t13.1),(eI64 t13.2)]) 88 rfl (by decide) ok76 rfl rfl rfl ⟨rfl,rfl,rfl,rfl,trivial⟩ (F76_spec et13) ?_
 refine .a 3 ?_
 refine .alloc rfl 19 rfl (by decide) rfl zr55 lay55 fun n14=>?_
 refine .store 0 rfl rfl rfl rfl rfl rfl (.cast .here rfl) rfl rfl sz55 rfl ?_
 refine .a 1 ?_
 refine .nS [2,19,20] [1,0] ?_
 refine .a 6 ?_
 rcases oi h with⟨c15,h⟩|⟨c15,h⟩
 ·refine .a 3 ?_
  refine .c (x:=(Z0 ((Vector.replicate 256 (0:Int)).toList.map eU8))) (.build (qs:=[]) rfl trivial Try.underlying55 rfl zr55 lay55 .nil rfl) ?_
  refine .a 1 ?_
  refine .store 0 rfl rfl rfl rfl rfl rfl (.cast .here rfl) rfl rfl sz55 rfl ?_
  refine .a 1 ?_
  refine .nS [2,3] [0] ?_
  refine .coeFld (X':=(Z22 ((Vector.replicate 256 (0:Int)).toList.map eU8) ([]:List (List Int)))) 0 rfl (.cast (.fldS (.fld0 .here)) rfl) rfl (nil_fz 1) rfl rfl ?_
  refine .coeFld (X':=(Z16 ((Vector.replicate 256 (0:Int)).toList.map eU8) ([]:List (List Int)) ([]:List Int))) 0 rfl (.cast (.fldS (.fldS (.fld0 .here))) rfl) rfl (nil_fz 1) rfl rfl ?_
  refine .rK [2,3] ?_
  cases h
  exact⟨[(e55 (S55.mk (Vector.replicate 256 (0:Int)) ([]:List (List Int)) ([]:List Int))),(eI64 t13.2)],⟨⟨_,0,rfl,rfl,ag55,sz55⟩,rfl,rfl,trivial⟩,rfl⟩
 refine .a 5 ?_
 obtain⟨t16,et16,h⟩:=ob h
 refine .callS [(e55 t13.1)] (.tup [(e55 t16.1),(eI64 t16.2)]) 96 rfl (by decide) ok63 rfl rfl rfl ⟨rfl,rfl,trivial⟩ (F63_spec et16) ?_
 refine .a 2 ?_
 refine .store 0 rfl rfl rfl rfl rfl rfl (.cast .here rfl) rfl rfl sz55 rfl ?_
 refine .a 1 ?_
 refine .nS [2,3] [0] ?_
 refine .rK [2,3] ?_
 cases h
 exact⟨[(e55 t16.1),(eI64 t16.2)],⟨⟨_,0,rfl,rfl,ag55,sz55⟩,rfl,rfl,trivial⟩,rfl⟩
def F60 (k:Nat) (p0:S55) (p1:Int) (p2:Int):Option Int:=
 Option.bind (α:=Bool) (if p1<(0:Int)then some (true)
 else if(p0.f1.length:Int)≤p1 then some (true)
 else if 0≤p2∧p2<(256:Int)then if 0≤p1∧p1<(p0.f1.length:Int)then some (decide (((lget p0.f1 p1).length:Int)≤(w64 (vget p0.f0 p2))))
 else none
 else none) fun b5=>
 if b5=true then some ((-1:Int))
 else if 0≤p1∧p1<(p0.f1.length:Int)then if 0≤p2∧p2<(256:Int)then if 0≤(vget p0.f0 p2)∧(vget p0.f0 p2)<((lget p0.f1 p1).length:Int)then some ((lget (lget p0.f1 p1) (vget p0.f0 p2)))
 else none
 else none
 else none
theorem F60_spec {k:Nat} {p0:S55} {p1:Int} {p2:Int} {r:Int} (h:F60 k p0 p1 p2=some r):Spec Try.prog 60 [(e55 p0),(eI64 p1),(eI64 p2)] (eI64 r):=by
 rw[F60.eq_1]at h
 refine Spec.intro (res:=[.tmp 6]) Try.func60 rfl rfl rfl (Nat.le_of_ble_eq_true rfl) ?_
 refine .sr ?_
 refine .box rfl 3 rfl (by decide) rfl rfl rfl fun n4=>?_
 refine .a 4 ?_
 obtain⟨b5,q6,h⟩:=ob h
 refine .regQM (by rfl) (by decide+kernel) [(1,(eI64 p1)),(2,(eI64 p2)),(3,(.ptr n4 0)),(29,(eBool b5))] ?_ ?_
 ·refine .a 3 ?_
  rcases oi q6 with⟨c7,q6⟩|⟨c7,q6⟩
  ·refine .a 20 ?_
   cases q6
   refine .nilE rfl ?_
   exact⟨rfl,rfl,rfl,rfl,trivial⟩
  refine .a 7 ?_
  rcases oi q6 with⟨c8,q6⟩|⟨c8,q6⟩
  ·refine .a 13 ?_
   cases q6
   refine .nilE rfl ?_
   exact⟨rfl,rfl,rfl,rfl,trivial⟩
  refine .a 2 ?_
  obtain⟨g9,q6⟩:=of_guard q6
  refine .cG rfl rfl (bD (decide_eq_false c8)) (.idxP rfl rfl rfl g9 Try.underlying52 sz5) ?_
  refine .cG rfl rfl (bD (decide_eq_false c8)) (.load 0 rfl rfl rfl (.cast (.fld0 (.vidx p2 g9.1 g9.2 .here)) (by omega)) ag5 sz5) ?_
  refine .cG (x:=eI64 (w64 (vget p0.f0 p2))) rfl rfl (bD (decide_eq_false c8)) (.conv rfl rfl Try.underlying5 Try.underlying3) ?_
  refine .cG (x:=.ptr n4 256) rfl rfl (bD (decide_eq_false c8)) (.fldPtr rfl rfl Try.underlying55 rfl sz53 _ rfl) ?_
  refine .cG rfl rfl (bD (decide_eq_false c8)) (.load 0 rfl rfl rfl (.cast (.fldS (.fld0 .here)) rfl) ag53 sz53) ?_
  refine .cG rfl rfl (bD (decide_eq_false c8)) (.move rfl rfl) ?_
  obtain⟨g10,q6⟩:=of_guard q6
  refine .a 5 ?_
  cases q6
  refine .nilE rfl ?_
  exact⟨rfl,rfl,rfl,rfl,trivial⟩
 rcases oi h with⟨c11,h⟩|⟨c11,h⟩
 ·refine .a 4 ?_
  refine .nS [6] [] ?_
  refine .rK [6] ?_
  cases h
  exact⟨[(eI64 (-1:Int))],⟨rfl,rfl,trivial⟩,rfl⟩
 refine .a 3 ?_
 refine .regQ (by rfl) (by decide+kernel) ?_
 refine .a 3 ?_
 obtain⟨g12,h⟩:=of_guard h
 refine .a 4 ?_
 obtain⟨g13,h⟩:=of_guard h
 refine .c (.idxP rfl rfl rfl g13 Try.underlying52 sz5) ?_
 refine .c (.load 0 rfl rfl rfl (.cast (.fld0 (.vidx p2 g13.1 g13.2 .here)) (by omega)) ag5 sz5) ?_
 obtain⟨g14,h⟩:=of_guard h
 refine .a 3 ?_
 refine .nK [6] ?_
 refine .rH [6] (H':=[]) (.nil _) ?_
 cases h
 exact⟨[(eI64 (lget (lget p0.f1 p1) (vget p0.f0 p2)))],⟨rfl,rfl,trivial⟩,rfl⟩
def F35_c0 (k:Nat) (x5:Int):Option Int:=
 some (x5)
def F35_l1 (k:Nat) (p0:S55) (p2:ByteArray):Nat→Int→Int→Option Int
 | 0,_,_=>none
 | j+1,x6,x7=>
   if x7<(p2.size:Int)then if 0≤x7∧x7<(p2.size:Int)then(F60 k p0 x6 (w64 (byteAt p2 x7))).bind fun t12=>
   (F35_l1 k p0 p2 j) t12 (w64 (x7+(1:Int)))
   else none
   else F35_c0 k x6
def F35 (k:Nat) (p0:S55) (p1:Int) (p2:ByteArray):Option Int:=
 F35_l1 k p0 p2 k p1 (0:Int)
theorem F35_spec {k:Nat} {p0:S55} {p1:Int} {p2:ByteArray} {r:Int} (h:F35 k p0 p1 p2=some r):Spec Try.prog 35 [(e55 p0),(eI64 p1),(eStr p2)] (eI64 r):=by
 rw[F35.eq_1]at h
 refine Spec.intro (res:=[.tmp 6]) Try.func35 rfl rfl rfl (Nat.le_of_ble_eq_true rfl) ?_
 refine .sr ?_
 refine .box rfl 3 rfl (by decide) rfl rfl rfl fun n4=>?_
 refine .a 1 ?_
 refine .nK [1,2,3] ?_
 refine .seq_mid (fun ρ H=>∃ (x5:Int),ρ=[(1,(eI64 x5))]∧H=[]∧F35_c0 k x5=some r) ?_ ?_
 ·refine .a 5 ?_
  refine .wK [1,2,3,7] ?_
  refine .loop (fun kq ρ H=>∃ (x6:Int) (x7:Int),ρ=[(1,(eI64 x6)),(2,(eStr p2)),(3,(.ptr n4 0)),(7,(eI64 x7))]∧H=[(n4,(.mem (e55 p0)))]∧F35_l1 k p0 p2 kq x6 x7=some r) k ⟨p1,(0:Int),rfl,rfl,h⟩ ?_
  rintro kq9 _ _ ⟨x6,x7,rfl,rfl,h⟩
  cases kq9 with
  | zero=>rw[F35_l1.eq_1]at h;cases h
  | succ kq9=>
  rw[F35_l1.eq_2]at h
  generalize hrec8:F35_l1 k p0 p2 kq9=rec8 at h
  refine .a 8 ?_
  rcases oi h with⟨c10,h⟩|⟨c10,h⟩
  ·refine .a 4 ?_
   refine .regQ (by rfl) (by decide+kernel) ?_
   refine .a 4 ?_
   obtain⟨g11,h⟩:=of_guard h
   refine .a 2 ?_
   obtain⟨t12,et12,h⟩:=ob h
   refine .c (.call (args:=[(e55 p0),(eI64 x6),(eI64 (w64 (byteAt p2 x7)))]) rfl rfl ok60 ⟨rfl,rfl,rfl,rfl,rfl,rfl,trivial⟩ rfl (F60_spec et12)) ?_
   refine .a 6 ?_
   refine .nK [1,2,3,7] ?_
   exact⟨kq9,Nat.lt_succ_self _,t12,(w64 (x7+(1:Int))),rfl,rfl,by rw[hrec8];exact h⟩
  refine .a 1 ?_
  refine .eH [1] (H':=[]) (.nil _) ?_
  exact⟨x6,rfl,rfl,h⟩
 rintro _ _ ⟨x5,rfl,rfl,h⟩
 rw[F35_c0.eq_1]at h
 refine .a 4 ?_
 refine .nK [6] ?_
 refine .rK [6] ?_
 have hr:=Option.some.inj h
 subst hr
 exact⟨[(eI64 x5)],⟨rfl,rfl,trivial⟩,rfl⟩
def F34 (k:Nat) (p0:S55) (p1:Int):Option Int:=
 Option.bind (α:=Bool) (if p1<(0:Int)then some (true)
 else some (decide ((p0.f2.length:Int)≤p1))) fun b4=>
 if b4=true then some ((-1:Int))
 else if 0≤p1∧p1<(p0.f2.length:Int)then some ((lget p0.f2 p1))
 else none
theorem F34_spec {k:Nat} {p0:S55} {p1:Int} {r:Int} (h:F34 k p0 p1=some r):Spec Try.prog 34 [(e55 p0),(eI64 p1)] (eI64 r):=by
 rw[F34.eq_1]at h
 refine Spec.intro (res:=[.tmp 4]) Try.func34 rfl rfl rfl (Nat.le_of_ble_eq_true rfl) ?_
 refine .sr ?_
 refine .box rfl 2 rfl (by decide) rfl rfl rfl fun n3=>?_
 refine .a 4 ?_
 obtain⟨b4,q5,h⟩:=ob h
 refine .regM [(1,(eI64 p1)),(2,(.ptr n3 0)),(13,(eBool b4))] [(n3,(.mem (e55 p0)))] ?_ ?_
 ·refine .a 3 ?_
  rcases oi q5 with⟨c6,q5⟩|⟨c6,q5⟩
  ·refine .a 6 ?_
   cases q5
   refine .nilE ⟨rfl,rfl⟩ ?_ ?_
   ·exact⟨rfl,rfl,rfl,trivial⟩
   exact(.refl _)
  refine .a 6 ?_
  cases q5
  refine .nilE ⟨rfl,rfl⟩ ?_ ?_
  ·exact⟨rfl,rfl,rfl,trivial⟩
  exact(.refl _)
 rcases oi h with⟨c7,h⟩|⟨c7,h⟩
 ·refine .a 4 ?_
  refine .nS [4] [] ?_
  refine .rK [4] ?_
  cases h
  exact⟨[(eI64 (-1:Int))],⟨rfl,rfl,trivial⟩,rfl⟩
 refine .a 7 ?_
 obtain⟨g8,h⟩:=of_guard h
 refine .a 3 ?_
 refine .nS [4] [] ?_
 refine .rK [4] ?_
 cases h
 exact⟨[(eI64 (lget p0.f2 p1))],⟨rfl,rfl,trivial⟩,rfl⟩
def F58_c0 (k:Nat) (x11:(List Bool)):Option (List Bool):=
 some (x11)
def F58_c1 (k:Nat) (rec27:((List Bool)→(List Int)→Int→Option (List Bool))) (x26:Int) (x30:(List Bool)) (x32:(List Int)):Option (List Bool):=
 rec27 x30 x32 (w64 (x26+(1:Int)))
def F58_l2 (k:Nat) (rec16:((List Bool)→(List Int)→Option (List Bool))) (p0:S55) (x15:(List Int)):Nat→(List Bool)→(List Int)→Int→Option (List Bool)
 | 0,_,_,_=>none
 | j+1,x23,x25,x26=>
   if x26<((lget p0.f1 (lget x15 (0:Int))).length:Int)then if 0≤x26∧x26<((lget p0.f1 (lget x15 (0:Int))).length:Int)then Option.bind (α:=Bool) (if(0:Int)≤(lget (lget p0.f1 (lget x15 (0:Int))) x26)then if(lget (lget p0.f1 (lget x15 (0:Int))) x26)<(x23.length:Int)then if 0≤(lget (lget p0.f1 (lget x15 (0:Int))) x26)∧(lget (lget p0.f1 (lget x15 (0:Int))) x26)<(x23.length:Int)then some (!(lget x23 (lget (lget p0.f1 (lget x15 (0:Int))) x26)))
   else none
   else some (false)
   else some (false)) fun b34=>
   if b34=true then if 0≤(lget (lget p0.f1 (lget x15 (0:Int))) x26)∧(lget (lget p0.f1 (lget x15 (0:Int))) x26)<(x23.length:Int)then if(x25++([(lget (lget p0.f1 (lget x15 (0:Int))) x26)]:List Int)).length*8≤140737488355328 then F58_c1 k (F58_l2 k rec16 p0 x15 j) x26 (lset x23 (lget (lget p0.f1 (lget x15 (0:Int))) x26) true) (x25++([(lget (lget p0.f1 (lget x15 (0:Int))) x26)]:List Int))
   else none
   else none
   else F58_c1 k (F58_l2 k rec16 p0 x15 j) x26 x23 x25
   else none
   else rec16 x23 x25
def F58_l3 (k:Nat) (p0:S55):Nat→(List Bool)→(List Int)→Option (List Bool)
 | 0,_,_=>none
 | j+1,x13,x15=>
   if(0:Int)<(x15.length:Int)then if 0≤(0:Int)∧(0:Int)<(x15.length:Int)then if 0≤(1:Int)∧(1:Int)≤(x15.length:Int)then if 0≤(lget x15 (0:Int))∧(lget x15 (0:Int))<(p0.f1.length:Int)then F58_l2 k (F58_l3 k p0 j) p0 x15 k x13 (x15.drop (1:Int).toNat) (0:Int)
   else none
   else none
   else none
   else F58_c0 k x13
def F58 (k:Nat) (p0:S55) (p1:Int):Option (List Bool):=
 if 0≤(p0.f1.length:Int)∧(p0.f1.length:Int)*(1:Int)≤140737488355328∧(p0.f1.length:Int)≤9223372036854775807 then Option.bind (α:=Bool) (if p1<(0:Int)then some (true)
 else some (decide (((List.replicate (p0.f1.length:Int).toNat false).length:Int)≤p1))) fun b6=>
 if b6=true then some ((List.replicate (p0.f1.length:Int).toNat false))
 else if 0≤p1∧p1<((List.replicate (p0.f1.length:Int).toNat false).length:Int)then F58_l3 k p0 k (lset (List.replicate (p0.f1.length:Int).toNat false) p1 true) ([p1]:List Int)
 else none
 else none
theorem F58_spec {k:Nat} {p0:S55} {p1:Int} {r:(List Bool)} (h:F58 k p0 p1=some r):Spec Try.prog 58 [(e55 p0),(eI64 p1)] (e98 r):=by
 rw[F58.eq_1]at h
 refine Spec.intro (res:=[.tmp 4]) Try.func58 rfl rfl rfl (Nat.le_of_ble_eq_true rfl) ?_
 refine .sr ?_
 refine .box rfl 2 rfl (by decide) rfl rfl rfl fun n3=>?_
 refine .a 7 ?_
 obtain⟨g5,h⟩:=of_guard h
 refine .makeL (f:=eBool) false rfl 13 rfl (by decide) rfl rfl rfl Try.underlying98 sz4 by4 zr4 lay4 rfl g5 fun n4=>?_
 refine .a 1 ?_
 refine .nS [1,2,5] [1,0] ?_
 refine .a 2 ?_
 obtain⟨b6,q7,h⟩:=ob h
 refine .regM [(1,(eI64 p1)),(2,(.ptr n3 0)),(5,(Z28 n4 (List.replicate (p0.f1.length:Int).toNat false).length)),(21,(eBool b6))] [(n3,(.mem (e55 p0))),(Z9 n4 (List.replicate (p0.f1.length:Int).toNat false))] ?_ ?_
 ·refine .a 3 ?_
  rcases oi q7 with⟨c8,q7⟩|⟨c8,q7⟩
  ·refine .a 5 ?_
   cases q7
   refine .nilE ⟨rfl,rfl⟩ ?_ ?_
   ·exact⟨rfl,rfl,rfl,rfl,trivial⟩
   exact(.refl _)
  refine .a 5 ?_
  cases q7
  refine .nilE ⟨rfl,rfl⟩ ?_ ?_
  ·exact⟨rfl,rfl,rfl,rfl,trivial⟩
  exact(.refl _)
 rcases oi h with⟨c9,h⟩|⟨c9,h⟩
 ·refine .a 5 ?_
  refine .nS [4] [1] ?_
  refine .freezeS 0 [(4,(Z29 (List.replicate (p0.f1.length:Int).toNat false)))] rfl ⟨fz_all rfl,trivial⟩ ?_
  refine .rK [4] ?_
  cases h
  exact⟨[(Z29 (List.replicate (p0.f1.length:Int).toNat false))],⟨rfl,rfl,trivial⟩,rfl⟩
 refine .a 6 ?_
 obtain⟨g10,h⟩:=of_guard h
 refine .a 1 ?_
 refine .store 1 rfl rfl rfl rfl rfl rfl (.cast (.lidx p1 true g10.1 g10.2 .here) (by omega)) rfl rfl sz4 rfl ?_
 refine .coe 5 (y':=(Z28 n4 (lset (List.replicate (p0.f1.length:Int).toNat false) p1 true).length)) rfl (fun _ _ h=>lset_own h) ?_
 refine .coe 23 (y':=(Z28 n4 (lset (List.replicate (p0.f1.length:Int).toNat false) p1 true).length)) rfl (fun _ _ h=>lset_own h) ?_
 refine .nK [1,2,5] ?_
 refine .seq_mid (fun ρ H=>∃ (x11:(List Bool)),ρ=[(5,(.own n4 0 x11.length))]∧H=[(Z9 n4 x11)]∧F58_c0 k x11=some r) ?_ ?_
 ·refine .a 3 ?_
  refine .lit (Z:=(eI64 (0:Int))) (xs:=(([p1]:List Int).map eI64)) (qs:=[(0,(eI64 p1))]) rfl 27 rfl (by decide) rfl ⟨rfl,rfl,rfl,trivial⟩ Try.underlying35 sz3 zr3 lay3 rfl (by decide) (litOK (z:=1) [(eI64 p1)] rfl ⟨⟨rfl,rfl⟩,trivial⟩) rfl fun n12=>?_
  refine .a 1 ?_
  refine .nS [2,5,6] [1,2,0] ?_
  refine .a 1 ?_
  refine .wK [2,5,6] ?_
  refine .loop (fun kq ρ H=>∃ (n14:Nat) (x13:(List Bool)) (x15:(List Int)),ρ=[(2,(.ptr n3 0)),(5,(.own n4 0 x13.length)),(6,(.own n14 0 x15.length))]∧H=[(n3,(.mem (e55 p0))),(Z9 n4 x13),(n14,(Z3 x15))]∧F58_l3 k p0 kq x13 x15=some r) k ⟨n12,(lset (List.replicate (p0.f1.length:Int).toNat false) p1 true),([p1]:List Int),rfl,rfl,h⟩ ?_
  rintro kq17 _ _ ⟨n14,x13,x15,rfl,rfl,h⟩
  cases kq17 with
  | zero=>rw[F58_l3.eq_1]at h;cases h
  | succ kq17=>
  rw[F58_l3.eq_2]at h
  generalize hrec16:F58_l3 k p0 kq17=rec16 at h
  refine .a 7 ?_
  rcases oi h with⟨c18,h⟩|⟨c18,h⟩
  ·refine .a 6 ?_
   obtain⟨g19,h⟩:=of_guard h
   refine .c (.idxO 2 rfl rfl rfl rfl g19 Try.underlying35 sz3) ?_
   refine .c (.load 2 rfl rfl rfl (.cast (.lidx (0:Int) g19.1 g19.2 .here) (by omega)) ag3 sz3) ?_
   refine .ag rfl rfl ?_
   refine .nK [2,5,6,7] ?_
   refine .sr ?_
   refine .mv rfl rfl ?_
   obtain⟨g20,h⟩:=of_guard h
   refine .sufNew (l:=x15) (f:=eI64) 2 35 rfl (by decide) rfl rfl rfl rfl rfl g20 Try.underlying35 sz3 fun n21=>?_
   refine .a 7 ?_
   obtain⟨g22,h⟩:=of_guard h
   refine .a 6 ?_
   refine .wK [2,5,6,40,41,42] ?_
   refine .loop (fun kq ρ H=>∃ (n24:Nat) (x23:(List Bool)) (x25:(List Int)) (x26:Int),ρ=[(2,(.ptr n3 0)),(5,(.own n4 0 x23.length)),(6,(.own n24 0 x25.length)),(40,(Z23 (lget p0.f1 (lget x15 (0:Int))))),(41,(eI64 ((lget p0.f1 (lget x15 (0:Int))).length:Int))),(42,(eI64 x26))]∧H=[(n3,(.mem (e55 p0))),(Z9 n4 x23),(n24,(Z3 x25))]∧F58_l2 k rec16 p0 x15 kq x23 x25 x26=some r) k ⟨n21,x13,(x15.drop (1:Int).toNat),(0:Int),rfl,rfl,h⟩ ?_
   rintro kq28 _ _ ⟨n24,x23,x25,x26,rfl,rfl,h⟩
   cases kq28 with
   | zero=>rw[F58_l2.eq_1]at h;cases h
   | succ kq28=>
   rw[F58_l2.eq_2]at h
   generalize hrec27:F58_l2 k rec16 p0 x15 kq28=rec27 at h
   refine .a 5 ?_
   rcases oi h with⟨c29,h⟩|⟨c29,h⟩
   ·refine .a 1 ?_
    refine .sK [2,5,6,40,41,42] ?_
    refine .seq_mid (fun ρ H=>∃ (n31:Nat) (x30:(List Bool)) (x32:(List Int)),ρ=[(2,(.ptr n3 0)),(5,(.own n4 0 x30.length)),(6,(.own n31 0 x32.length)),(40,(Z23 (lget p0.f1 (lget x15 (0:Int))))),(41,(eI64 ((lget p0.f1 (lget x15 (0:Int))).length:Int))),(42,(eI64 x26))]∧H=[(n3,(.mem (e55 p0))),(Z9 n4 x30),(n31,(Z3 x32))]∧F58_c1 k rec27 x26 x30 x32=some r) ?_ ?_
    ·refine .a 3 ?_
     obtain⟨g33,h⟩:=of_guard h
     refine .a 5 ?_
     obtain⟨b34,q35,h⟩:=ob h
     refine .regM [(2,(.ptr n3 0)),(5,(.own n4 0 x23.length)),(6,(.own n24 0 x25.length)),(9,(eI64 (lget (lget p0.f1 (lget x15 (0:Int))) x26))),(40,(Z23 (lget p0.f1 (lget x15 (0:Int))))),(41,(eI64 ((lget p0.f1 (lget x15 (0:Int))).length:Int))),(42,(eI64 x26)),(60,(eBool b34))] [(n3,(.mem (e55 p0))),(Z9 n4 x23),(n24,(Z3 x25))] ?_ ?_
     ·refine .a 3 ?_
      rcases oi q35 with⟨c36,q35⟩|⟨c36,q35⟩
      ·refine .a 6 ?_
       rcases oi q35 with⟨c37,q35⟩|⟨c37,q35⟩
       ·refine .a 2 ?_
        obtain⟨g38,q35⟩:=of_guard q35
        refine .cG rfl rfl (bD (decide_eq_true c37)) (.idxO 1 rfl rfl rfl rfl g38 Try.underlying98 sz4) ?_
        refine .cG rfl rfl (bD (decide_eq_true c37)) (.load 1 rfl rfl rfl (.cast (.lidx (lget (lget p0.f1 (lget x15 (0:Int))) x26) g38.1 g38.2 .here) (by omega)) ag4 sz4) ?_
        refine .cG rfl rfl (bD (decide_eq_true c37)) (.not rfl rfl) ?_
        refine .c (.pickT rfl (bD (decide_eq_true c37)) rfl) ?_
        cases q35
        refine .nilE ⟨rfl,rfl⟩ ?_ ?_
        ·exact⟨rfl,rfl,rfl,rfl,rfl,rfl,rfl,rfl,trivial⟩
        exact(.refl _)
       refine .a 6 ?_
       cases q35
       refine .nilE ⟨rfl,rfl⟩ ?_ ?_
       ·exact⟨rfl,rfl,rfl,rfl,rfl,rfl,rfl,rfl,trivial⟩
       exact(.refl _)
      refine .a 12 ?_
      cases q35
      refine .nilE ⟨rfl,rfl⟩ ?_ ?_
      ·exact⟨rfl,rfl,rfl,rfl,rfl,rfl,rfl,rfl,trivial⟩
      exact(.refl _)
     rcases oi h with⟨c39,h⟩|⟨c39,h⟩
     ·refine .a 5 ?_
      obtain⟨g40,h⟩:=of_guard h
      refine .a 1 ?_
      refine .store 1 rfl rfl rfl rfl rfl rfl (.cast (.lidx (lget (lget p0.f1 (lget x15 (0:Int))) x26) true g40.1 g40.2 .here) (by omega)) rfl rfl sz4 rfl ?_
      refine .coe 5 (y':=(Z28 n4 (lset x23 (lget (lget p0.f1 (lget x15 (0:Int))) x26) true).length)) rfl (fun _ _ h=>lset_own h) ?_
      refine .coe 61 (y':=(Z28 n4 (lset x23 (lget (lget p0.f1 (lget x15 (0:Int))) x26) true).length)) rfl (fun _ _ h=>lset_own h) ?_
      refine .a 4 ?_
      refine .lit (Z:=(eI64 (0:Int))) (xs:=(([(lget (lget p0.f1 (lget x15 (0:Int))) x26)]:List Int).map eI64)) (qs:=[(0,(eI64 (lget (lget p0.f1 (lget x15 (0:Int))) x26)))]) rfl 66 rfl (by decide) rfl ⟨rfl,rfl,rfl,trivial⟩ Try.underlying35 sz3 zr3 lay3 rfl (by decide) (litOK (z:=1) [(eI64 (lget (lget p0.f1 (lget x15 (0:Int))) x26))] rfl ⟨⟨rfl,rfl⟩,trivial⟩) rfl fun n41=>?_
      obtain⟨g43,h⟩:=of_guard h
      refine .appendL (l:=x25) (m:=([(lget (lget p0.f1 (lget x15 (0:Int))) x26)]:List Int)) 3 67 rfl (by decide) rfl rfl rfl rfl rfl (Src.ownL (f:=eI64) (l:=([(lget (lget p0.f1 (lget x15 (0:Int))) x26)]:List Int)) 0 rfl) Try.underlying35 Try.underlying35 sz3 by3 zr3 rfl g43 (by decide) fun n42=>?_
      refine .a 1 ?_
      refine .nS [2,5,6,40,41,42] [1,2,3] ?_
      exact⟨n42,(lset x23 (lget (lget p0.f1 (lget x15 (0:Int))) x26) true),(x25++([(lget (lget p0.f1 (lget x15 (0:Int))) x26)]:List Int)),rfl,rfl,h⟩
     refine .a 1 ?_
     refine .sK [2,5,6,40,41,42] ?_
     exact⟨n24,x23,x25,rfl,rfl,h⟩
    rintro _ _ ⟨n31,x30,x32,rfl,rfl,h⟩
    rw[F58_c1.eq_1]at h
    refine .a 3 ?_
    refine .nK [2,5,6,40,41,42] ?_
    exact⟨kq28,Nat.lt_succ_self _,n31,x30,x32,(w64 (x26+(1:Int))),rfl,rfl,by rw[hrec27];exact h⟩
   refine .a 1 ?_
   refine .eK [2,5,6] ?_
   exact⟨kq17,Nat.lt_succ_self _,n24,x23,x25,rfl,rfl,by rw[hrec16];exact h⟩
  refine .a 1 ?_
  refine .eH [5] (H':=[(Z9 n4 x13)]) (.cons 1 rfl (.nil _)) ?_
  exact⟨x13,rfl,rfl,h⟩
 rintro _ _ ⟨x11,rfl,rfl,h⟩
 rw[F58_c0.eq_1]at h
 refine .a 4 ?_
 refine .nK [4] ?_
 refine .freezeS 0 [(4,(.fz 1 (x11.map eBool)))] rfl ⟨fz_all rfl,trivial⟩ ?_
 refine .rK [4] ?_
 have hr:=Option.some.inj h
 subst hr
 exact⟨[(.fz 1 (x11.map eBool))],⟨rfl,rfl,trivial⟩,rfl⟩
def F29_c0 (k:Nat) (x9:(List Int)):Option (List Int):=
 some (x9)
def F29_c1 (k:Nat) (rec13:((List Int)→Int→Option (List Int))) (x12:Int) (x17:(List Int)):Option (List Int):=
 rec13 x17 (w64 (x12+(1:Int)))
def F29_l2 (k:Nat) (x7:(List Bool)):Nat→(List Int)→Int→Option (List Int)
 | 0,_,_=>none
 | j+1,x11,x12=>
   if x12<(x7.length:Int)then if 0≤x12∧x12<(x7.length:Int)then if(!(lget x7 x12))=true then if(x11++([x12]:List Int)).length*8≤140737488355328 then F29_c1 k (F29_l2 k x7 j) x12 (x11++([x12]:List Int))
   else none
   else F29_c1 k (F29_l2 k x7 j) x12 x11
   else none
   else F29_c0 k x11
def F29_c3 (k:Nat) (x7:(List Bool)):Option (List Int):=
 F29_l2 k x7 k ([]:List Int) (0:Int)
def F29_c4 (k:Nat) (rec26:((List Bool)→Int→Option (List Int))) (x25:Int) (x29:(List Bool)):Option (List Int):=
 rec26 x29 (w64 (x25+(1:Int)))
def F29_l5 (k:Nat) (p0:S55) (p1:Int) (t6:(List Bool)):Nat→(List Bool)→Int→Option (List Int)
 | 0,_,_=>none
 | j+1,x24,x25=>
   if x25<(p0.f2.length:Int)then if 0≤x25∧x25<(p0.f2.length:Int)then Option.bind (α:=Bool) (if(0:Int)≤(lget p0.f2 x25)then if(lget p0.f2 x25)<p1 then if 0≤x25∧x25<(t6.length:Int)then some ((lget t6 x25))
   else none
   else some (false)
   else some (false)) fun b31=>
   if b31=true then if 0≤(lget p0.f2 x25)∧(lget p0.f2 x25)<(x24.length:Int)then F29_c4 k (F29_l5 k p0 p1 t6 j) x25 (lset x24 (lget p0.f2 x25) true)
   else none
   else F29_c4 k (F29_l5 k p0 p1 t6 j) x25 x24
   else none
   else F29_c3 k x24
def F29 (k:Nat) (p0:S55) (p1:Int):Option (List Int):=
 if 0≤(max p1 (0:Int))∧(max p1 (0:Int))*(1:Int)≤140737488355328∧(max p1 (0:Int))≤9223372036854775807 then(F58 k p0 (0:Int)).bind fun t6=>
 F29_l5 k p0 p1 t6 k (List.replicate (max p1 (0:Int)).toNat false) (0:Int)
 else none
theorem F29_spec {k:Nat} {p0:S55} {p1:Int} {r:(List Int)} (h:F29 k p0 p1=some r):Spec Try.prog 29 [(e55 p0),(eI64 p1)] (e35 r):=by
 rw[F29.eq_1]at h
 refine Spec.intro (res:=[.tmp 4]) Try.func29 rfl rfl rfl (Nat.le_of_ble_eq_true rfl) ?_
 refine .sr ?_
 refine .box rfl 2 rfl (by decide) rfl rfl rfl fun n3=>?_
 refine .a 5 ?_
 refine .c (x:=eI64 (max p1 (0:Int))) (.max2 rfl rfl rfl) ?_
 obtain⟨g5,h⟩:=of_guard h
 refine .makeL (f:=eBool) false rfl 14 rfl (by decide) rfl rfl rfl Try.underlying98 sz4 by4 zr4 lay4 rfl g5 fun n4=>?_
 refine .a 1 ?_
 refine .nS [1,2,5] [1,0] ?_
 refine .a 3 ?_
 obtain⟨t6,et6,h⟩:=ob h
 refine .callS [(e55 p0),(eI64 (0:Int))] (.fz 1 (t6.map eBool)) 16 rfl (by decide) ok58 rfl rfl rfl ⟨rfl,rfl,rfl,rfl,trivial⟩ (F58_spec et6) ?_
 refine .a 1 ?_
 refine .nK [1,2,5,6] ?_
 refine .seq_mid (fun ρ H=>∃ (x7:(List Bool)),ρ=[(5,(.own n4 0 x7.length))]∧H=[(Z9 n4 x7)]∧F29_c3 k x7=some r) ?_ ?_
 ·refine .a 6 ?_
  refine .nS [1,5,6,18,19,20] [1] ?_
  refine .a 1 ?_
  refine .wK [1,5,6,18,19,20] ?_
  refine .loop (fun kq ρ H=>∃ (x24:(List Bool)) (x25:Int),ρ=[(1,(eI64 p1)),(5,(.own n4 0 x24.length)),(6,(.fz 1 (t6.map eBool))),(18,(Z23 p0.f2)),(19,(eI64 (p0.f2.length:Int))),(20,(eI64 x25))]∧H=[(Z9 n4 x24)]∧F29_l5 k p0 p1 t6 kq x24 x25=some r) k ⟨(List.replicate (max p1 (0:Int)).toNat false),(0:Int),rfl,rfl,h⟩ ?_
  rintro kq27 _ _ ⟨x24,x25,rfl,rfl,h⟩
  cases kq27 with
  | zero=>rw[F29_l5.eq_1]at h;cases h
  | succ kq27=>
  rw[F29_l5.eq_2]at h
  generalize hrec26:F29_l5 k p0 p1 t6 kq27=rec26 at h
  refine .a 5 ?_
  rcases oi h with⟨c28,h⟩|⟨c28,h⟩
  ·refine .a 1 ?_
   refine .sK [1,5,6,18,19,20] ?_
   refine .seq_mid (fun ρ H=>∃ (x29:(List Bool)),ρ=[(1,(eI64 p1)),(5,(.own n4 0 x29.length)),(6,(.fz 1 (t6.map eBool))),(18,(Z23 p0.f2)),(19,(eI64 (p0.f2.length:Int))),(20,(eI64 x25))]∧H=[(Z9 n4 x29)]∧F29_c4 k rec26 x25 x29=some r) ?_ ?_
   ·refine .a 4 ?_
    obtain⟨g30,h⟩:=of_guard h
    refine .a 6 ?_
    obtain⟨b31,q32,h⟩:=ob h
    refine .regM [(1,(eI64 p1)),(5,(.own n4 0 x24.length)),(6,(.fz 1 (t6.map eBool))),(8,(eI64 (lget p0.f2 x25))),(18,(Z23 p0.f2)),(19,(eI64 (p0.f2.length:Int))),(20,(eI64 x25)),(37,(eBool b31))] [(Z9 n4 x24)] ?_ ?_
    ·refine .a 3 ?_
     rcases oi q32 with⟨c33,q32⟩|⟨c33,q32⟩
     ·refine .a 5 ?_
      rcases oi q32 with⟨c34,q32⟩|⟨c34,q32⟩
      ·refine .a 2 ?_
       obtain⟨g35,q32⟩:=of_guard q32
       refine .a 3 ?_
       cases q32
       refine .nilE ⟨rfl,rfl⟩ ?_ ?_
       ·exact⟨rfl,rfl,rfl,rfl,rfl,rfl,rfl,rfl,trivial⟩
       exact(.refl _)
      refine .a 5 ?_
      cases q32
      refine .nilE ⟨rfl,rfl⟩ ?_ ?_
      ·exact⟨rfl,rfl,rfl,rfl,rfl,rfl,rfl,rfl,trivial⟩
      exact(.refl _)
     refine .a 10 ?_
     cases q32
     refine .nilE ⟨rfl,rfl⟩ ?_ ?_
     ·exact⟨rfl,rfl,rfl,rfl,rfl,rfl,rfl,rfl,trivial⟩
     exact(.refl _)
    rcases oi h with⟨c36,h⟩|⟨c36,h⟩
    ·refine .a 4 ?_
     obtain⟨g37,h⟩:=of_guard h
     refine .a 1 ?_
     refine .store 0 rfl rfl rfl rfl rfl rfl (.cast (.lidx (lget p0.f2 x25) true g37.1 g37.2 .here) (by omega)) rfl rfl sz4 rfl ?_
     refine .coe 5 (y':=(Z28 n4 (lset x24 (lget p0.f2 x25) true).length)) rfl (fun _ _ h=>lset_own h) ?_
     refine .coe 38 (y':=(Z28 n4 (lset x24 (lget p0.f2 x25) true).length)) rfl (fun _ _ h=>lset_own h) ?_
     refine .nK [1,5,6,18,19,20] ?_
     exact⟨(lset x24 (lget p0.f2 x25) true),rfl,rfl,h⟩
    refine .a 1 ?_
    refine .sK [1,5,6,18,19,20] ?_
    exact⟨x24,rfl,rfl,h⟩
   rintro _ _ ⟨x29,rfl,rfl,h⟩
   rw[F29_c4.eq_1]at h
   refine .a 3 ?_
   refine .nK [1,5,6,18,19,20] ?_
   exact⟨kq27,Nat.lt_succ_self _,x29,(w64 (x25+(1:Int))),rfl,rfl,by rw[hrec26];exact h⟩
  refine .a 1 ?_
  refine .eK [5] ?_
  exact⟨x24,rfl,rfl,h⟩
 rintro _ _ ⟨x7,rfl,rfl,h⟩
 rw[F29_c3.eq_1]at h
 refine .a 3 ?_
 refine .nK [5,9] ?_
 refine .seq_mid (fun ρ H=>∃ (n8:Nat) (x9:(List Int)),ρ=[(9,(.own n8 0 x9.length))]∧H=[(n8,(Z3 x9))]∧F29_c0 k x9=some r) ?_ ?_
 ·refine .a 7 ?_
  refine .nilOwn 9 1 rfl fun n23=>?_
  refine .wK [9,42,43,44] ?_
  refine .loop (fun kq ρ H=>∃ (n10:Nat) (x11:(List Int)) (x12:Int),ρ=[(9,(.own n10 0 x11.length)),(42,(.own n4 0 x7.length)),(43,(eI64 (x7.length:Int))),(44,(eI64 x12))]∧H=[(n10,(Z3 x11)),(Z9 n4 x7)]∧F29_l2 k x7 kq x11 x12=some r) k ⟨n23,([]:List Int),(0:Int),rfl,rfl,h⟩ ?_
  rintro kq14 _ _ ⟨n10,x11,x12,rfl,rfl,h⟩
  cases kq14 with
  | zero=>rw[F29_l2.eq_1]at h;cases h
  | succ kq14=>
  rw[F29_l2.eq_2]at h
  generalize hrec13:F29_l2 k x7 kq14=rec13 at h
  refine .a 5 ?_
  rcases oi h with⟨c15,h⟩|⟨c15,h⟩
  ·refine .a 1 ?_
   refine .sK [9,42,43,44] ?_
   refine .seq_mid (fun ρ H=>∃ (n16:Nat) (x17:(List Int)),ρ=[(9,(.own n16 0 x17.length)),(42,(.own n4 0 x7.length)),(43,(eI64 (x7.length:Int))),(44,(eI64 x12))]∧H=[(n16,(Z3 x17)),(Z9 n4 x7)]∧F29_c1 k rec13 x12 x17=some r) ?_ ?_
   ·refine .a 4 ?_
    obtain⟨g18,h⟩:=of_guard h
    refine .c (.idxO 1 rfl rfl rfl rfl g18 Try.underlying98 sz4) ?_
    refine .c (.load 1 rfl rfl rfl (.cast (.lidx x12 g18.1 g18.2 .here) (by omega)) ag4 sz4) ?_
    refine .ag rfl rfl ?_
    refine .ag rfl rfl ?_
    refine .nK [9,10,11,42,43,44] ?_
    refine .sr ?_
    refine .mv rfl rfl ?_
    refine .c (.not rfl rfl) ?_
    refine .nK [9,10,42,43,44,50] ?_
    rcases oi h with⟨c19,h⟩|⟨c19,h⟩
    ·refine .a 4 ?_
     refine .lit (Z:=(eI64 (0:Int))) (xs:=(([x12]:List Int).map eI64)) (qs:=[(0,(eI64 x12))]) rfl 53 rfl (by decide) rfl ⟨rfl,rfl,rfl,trivial⟩ Try.underlying35 sz3 zr3 lay3 rfl (by decide) (litOK (z:=1) [(eI64 x12)] rfl ⟨⟨rfl,rfl⟩,trivial⟩) rfl fun n20=>?_
     obtain⟨g22,h⟩:=of_guard h
     refine .appendL (l:=x11) (m:=([x12]:List Int)) 1 54 rfl (by decide) rfl rfl rfl rfl rfl (Src.ownL (f:=eI64) (l:=([x12]:List Int)) 0 rfl) Try.underlying35 Try.underlying35 sz3 by3 zr3 rfl g22 (by decide) fun n21=>?_
     refine .a 1 ?_
     refine .nS [9,42,43,44] [1,2] ?_
     exact⟨n21,(x11++([x12]:List Int)),rfl,rfl,h⟩
    refine .a 1 ?_
    refine .sK [9,42,43,44] ?_
    exact⟨n10,x11,rfl,rfl,h⟩
   rintro _ _ ⟨n16,x17,rfl,rfl,h⟩
   rw[F29_c1.eq_1]at h
   refine .a 3 ?_
   refine .nK [9,42,43,44] ?_
   exact⟨kq14,Nat.lt_succ_self _,n16,x17,(w64 (x12+(1:Int))),rfl,rfl,by rw[hrec13];exact h⟩
  refine .a 1 ?_
  refine .eH [9] (H':=[(n10,(Z3 x11))]) (.cons 0 rfl (.nil _)) ?_
  exact⟨n10,x11,rfl,rfl,h⟩
 rintro _ _ ⟨n8,x9,rfl,rfl,h⟩
 rw[F29_c0.eq_1]at h
 refine .a 4 ?_
 refine .nK [4] ?_
 refine .freezeS 0 [(4,(.fz 1 (x9.map eI64)))] rfl ⟨fz_all rfl,trivial⟩ ?_
 refine .rK [4] ?_
 have hr:=Option.some.inj h
 subst hr
 exact⟨[(.fz 1 (x9.map eI64))],⟨rfl,rfl,trivial⟩,rfl⟩
def F26 (k:Nat):Option Bool:=
 (F55 k [(S82.mk (ByteArray.mk #[105,102]) (0:Int) (ByteArray.mk #[105,102])),(S82.mk (ByteArray.mk #[105,100]) (0:Int) (ByteArray.mk #[91,97,45,122,93,43]))]).bind fun t2=>
 Option.bind (α:=Bool) (if t2.2=(0:Int)then(F35 k t2.1 (0:Int) (ByteArray.mk #[105,102])).bind fun t7=>
 (F34 k t2.1 t7).bind fun t8=>
 if t8=(0:Int)then(F35 k t2.1 (0:Int) (ByteArray.mk #[105,102,115])).bind fun t10=>
 (F34 k t2.1 t10).bind fun t11=>
 if t11=(1:Int)then(F29 k t2.1 (2:Int)).bind fun t13=>
 some (decide ((t13.length:Int)=(0:Int)))
 else some (false)
 else some (false)
 else some (false)) fun b4=>
 some (b4)
theorem F26_spec {k:Nat} {r:Bool} (h:F26 k=some r):Spec Try.prog 26 [] (eBool r):=by
 rw[F26.eq_1]at h
 refine Spec.intro (res:=[.tmp 0]) Try.func26 rfl rfl rfl (Nat.le_of_ble_eq_true rfl) ?_
 refine .a 6 ?_
 refine .c (x:=(.st [(1,(eStr (ByteArray.mk #[105,102]))),(1,(eI64 (0:Int))),(1,(eStr (ByteArray.mk #[105,102])))])) (.build (qs:=[(0,(eStr (ByteArray.mk #[105,102]))),(2,(eStr (ByteArray.mk #[105,102])))]) rfl ⟨rfl,rfl,rfl,rfl,rfl,rfl,trivial⟩ Try.underlying82 rfl zr82 lay82 (.cons rfl rfl rfl rfl (.cast (.fld0 .here) rfl) (.cons rfl rfl rfl rfl (.cast (.fldS (.fldS (.fld0 .here))) rfl) .nil)) rfl) ?_
 refine .c (x:=(.st [(1,(eStr (ByteArray.mk #[105,100]))),(1,(eI64 (0:Int))),(1,(eStr (ByteArray.mk #[91,97,45,122,93,43])))])) (.build (qs:=[(0,(eStr (ByteArray.mk #[105,100]))),(2,(eStr (ByteArray.mk #[91,97,45,122,93,43])))]) rfl ⟨rfl,rfl,rfl,rfl,rfl,rfl,trivial⟩ Try.underlying82 rfl zr82 lay82 (.cons rfl rfl rfl rfl (.cast (.fld0 .here) rfl) (.cons rfl rfl rfl rfl (.cast (.fldS (.fldS (.fld0 .here))) rfl) .nil)) rfl) ?_
 refine .lit (Z:=(.st [(1,(eStr ByteArray.empty)),(1,(eI64 (0:Int))),(1,(eStr ByteArray.empty))])) (xs:=(([(S82.mk (ByteArray.mk #[105,102]) (0:Int) (ByteArray.mk #[105,102])),(S82.mk (ByteArray.mk #[105,100]) (0:Int) (ByteArray.mk #[91,97,45,122,93,43]))]:List S82).map e82)) (qs:=[(0,(e82 (S82.mk (ByteArray.mk #[105,102]) (0:Int) (ByteArray.mk #[105,102])))),(1,(e82 (S82.mk (ByteArray.mk #[105,100]) (0:Int) (ByteArray.mk #[91,97,45,122,93,43]))))]) rfl 6 rfl (by decide) rfl ⟨rfl,rfl,rfl,rfl,rfl,rfl,trivial⟩ Try.underlying22 sz82 zr82 lay82 rfl (by decide) (litOK (z:=3) [(e82 (S82.mk (ByteArray.mk #[105,102]) (0:Int) (ByteArray.mk #[105,102]))),(e82 (S82.mk (ByteArray.mk #[105,100]) (0:Int) (ByteArray.mk #[91,97,45,122,93,43])))] rfl ⟨⟨rfl,rfl⟩,⟨rfl,rfl⟩,trivial⟩) rfl fun n1=>?_
 obtain⟨t2,et2,h⟩:=ob h
 refine .freezeS 0 [(6,(.fz 3 (([(S82.mk (ByteArray.mk #[105,102]) (0:Int) (ByteArray.mk #[105,102])),(S82.mk (ByteArray.mk #[105,100]) (0:Int) (ByteArray.mk #[91,97,45,122,93,43]))]:List S82).map e82)))] rfl ⟨fz_all rfl,trivial⟩ ?_
 refine .callS [(.fz 3 (([(S82.mk (ByteArray.mk #[105,102]) (0:Int) (ByteArray.mk #[105,102])),(S82.mk (ByteArray.mk #[105,100]) (0:Int) (ByteArray.mk #[91,97,45,122,93,43]))]:List S82).map e82))] (.tup [(e55 t2.1),(eI64 t2.2)]) 7 rfl (by decide) ok55 rfl rfl rfl ⟨rfl,rfl,trivial⟩ (F55_spec et2) ?_
 refine .a 3 ?_
 refine .alloc rfl 1 rfl (by decide) rfl zr55 lay55 fun n3=>?_
 refine .store 0 rfl rfl rfl rfl rfl rfl (.cast .here rfl) rfl rfl sz55 rfl ?_
 refine .a 3 ?_
 obtain⟨b4,q5,h⟩:=ob h
 refine .toM [(0,(eBool b4))] [] ?_ ?_
 ·rcases oi q5 with⟨c6,q5⟩|⟨c6,q5⟩
  ·obtain⟨t7,et7,q5⟩:=ob q5
   obtain⟨t8,et8,q5⟩:=ob q5
   rcases oi q5 with⟨c9,q5⟩|⟨c9,q5⟩
   ·obtain⟨t10,et10,q5⟩:=ob q5
    obtain⟨t11,et11,q5⟩:=ob q5
    rcases oi q5 with⟨c12,q5⟩|⟨c12,q5⟩
    ·obtain⟨t13,et13,q5⟩:=ob q5
     refine .regAny (by rfl) (by decide+kernel) [(eI64 t2.2),(eBool (decide (t2.2=(0:Int)))),(eBool (decide (t2.2=(0:Int)))),(e55 t2.1),(e55 t2.1),(eI64 t7),(eI64 t8),(eBool (decide (t8=(0:Int)))),(eBool (decide (t8=(0:Int)))),(eBool (decide (t8=(0:Int)))),(e55 t2.1),(e55 t2.1),(eI64 t10),(eI64 t11),(eBool (decide (t11=(1:Int)))),(eBool (decide (t11=(1:Int)))),(eBool (decide (t11=(1:Int)))),(e55 t2.1),(.fz 1 (t13.map eI64)),(eI64 (t13.length:Int)),(eBool (decide ((t13.length:Int)=(0:Int)))),(eBool (decide ((t13.length:Int)=(0:Int)))),(eBool (decide ((t13.length:Int)=(0:Int))))] [(1,(.ptr n3 0)),(2,(eI64 t2.2))] ⟨rfl,rfl,trivial⟩ rfl ?_ [(0,(eBool (decide ((t13.length:Int)=(0:Int)))))] [] ⟨rfl,trivial⟩ (.nil _) ?_
     ·refine⟨?_,?_,?_,?_,?_,?_,?_,?_,?_,?_,?_,?_,?_,?_,?_,?_,?_,?_,?_,?_,?_,?_,?_,trivial⟩
      ·refine .a 1 ?_
       exact .q 10
      ·refine .a 1 ?_
       exact .q 11
      ·refine .a 1 ?_
       exact .q 12
      ·refine .a 1 ?_
       exact .q 13
      ·refine .a 1 ?_
       exact .q 14
      ·refine .wK [12,14] ?_
       refine .callG 2 true 12 [(e55 t2.1),(eI64 (0:Int)),(eStr (ByteArray.mk #[105,102]))] (eI64 t7) 15 rfl (by decide) ok35 rfl rfl (bD (decide_eq_true c6)) rfl rfl ⟨rfl,rfl,rfl,rfl,rfl,rfl,trivial⟩ (F35_spec et7) ?_
       exact .q 15
      ·refine .wK [12,13,15] ?_
       refine .callG 2 true 12 [(e55 t2.1),(eI64 t7)] (eI64 t8) 16 rfl (by decide) ok34 rfl rfl (bD (decide_eq_true c6)) rfl rfl ⟨rfl,rfl,rfl,rfl,trivial⟩ (F34_spec et8) ?_
       exact .q 16
      ·refine .a 1 ?_
       exact .q 17
      ·refine .a 1 ?_
       exact .q 18
      ·refine .a 1 ?_
       exact .q 19
      ·refine .a 1 ?_
       exact .q 20
      ·refine .a 1 ?_
       exact .q 21
      ·refine .wK [19,21] ?_
       refine .callG 9 true 19 [(e55 t2.1),(eI64 (0:Int)),(eStr (ByteArray.mk #[105,102,115]))] (eI64 t10) 22 rfl (by decide) ok35 rfl rfl (bD (decide_eq_true c9)) rfl rfl ⟨rfl,rfl,rfl,rfl,rfl,rfl,trivial⟩ (F35_spec et10) ?_
       exact .q 22
      ·refine .wK [19,20,22] ?_
       refine .callG 9 true 19 [(e55 t2.1),(eI64 t10)] (eI64 t11) 23 rfl (by decide) ok34 rfl rfl (bD (decide_eq_true c9)) rfl rfl ⟨rfl,rfl,rfl,rfl,trivial⟩ (F34_spec et11) ?_
       exact .q 23
      ·refine .a 1 ?_
       exact .q 24
      ·refine .a 1 ?_
       exact .q 25
      ·refine .a 1 ?_
       exact .q 26
      ·refine .a 1 ?_
       exact .q 27
      ·refine .wK [26,27] ?_
       refine .callG 16 true 26 [(e55 t2.1),(eI64 (2:Int))] (.fz 1 (t13.map eI64)) 28 rfl (by decide) ok29 rfl rfl (bD (decide_eq_true c12)) rfl rfl ⟨rfl,rfl,rfl,rfl,trivial⟩ (F29_spec et13) ?_
       exact .q 28
      ·refine .a 1 ?_
       exact .q 29
      ·refine .a 1 ?_
       exact .q 30
      ·refine .a 1 ?_
       exact .q 31
      refine .a 1 ?_
      exact .q 0
     cases q5
     exact⟨rfl,rfl,rfl⟩
    refine .regAny (by rfl) (by decide+kernel) [(eI64 t2.2),(eBool (decide (t2.2=(0:Int)))),(eBool (decide (t2.2=(0:Int)))),(e55 t2.1),(e55 t2.1),(eI64 t7),(eI64 t8),(eBool (decide (t8=(0:Int)))),(eBool (decide (t8=(0:Int)))),(eBool (decide (t8=(0:Int)))),(e55 t2.1),(e55 t2.1),(eI64 t10),(eI64 t11),(eBool (decide (t11=(1:Int)))),(eBool (decide (t11=(1:Int)))),(eBool (decide (t11=(1:Int)))),(.fl undef),(.fl undef),(.fl undef),(.fl undef),(eBool false),(eBool false)] [(1,(.ptr n3 0)),(2,(eI64 t2.2))] ⟨rfl,rfl,trivial⟩ rfl ?_ [(0,(eBool false))] [] ⟨rfl,trivial⟩ (.nil _) ?_
    ·refine⟨?_,?_,?_,?_,?_,?_,?_,?_,?_,?_,?_,?_,?_,?_,?_,?_,?_,?_,?_,?_,?_,?_,?_,trivial⟩
     ·refine .a 1 ?_
      exact .q 10
     ·refine .a 1 ?_
      exact .q 11
     ·refine .a 1 ?_
      exact .q 12
     ·refine .a 1 ?_
      exact .q 13
     ·refine .a 1 ?_
      exact .q 14
     ·refine .wK [12,14] ?_
      refine .callG 2 true 12 [(e55 t2.1),(eI64 (0:Int)),(eStr (ByteArray.mk #[105,102]))] (eI64 t7) 15 rfl (by decide) ok35 rfl rfl (bD (decide_eq_true c6)) rfl rfl ⟨rfl,rfl,rfl,rfl,rfl,rfl,trivial⟩ (F35_spec et7) ?_
      exact .q 15
     ·refine .wK [12,13,15] ?_
      refine .callG 2 true 12 [(e55 t2.1),(eI64 t7)] (eI64 t8) 16 rfl (by decide) ok34 rfl rfl (bD (decide_eq_true c6)) rfl rfl ⟨rfl,rfl,rfl,rfl,trivial⟩ (F34_spec et8) ?_
      exact .q 16
     ·refine .a 1 ?_
      exact .q 17
     ·refine .a 1 ?_
      exact .q 18
     ·refine .a 1 ?_
      exact .q 19
     ·refine .a 1 ?_
      exact .q 20
     ·refine .a 1 ?_
      exact .q 21
     ·refine .wK [19,21] ?_
      refine .callG 9 true 19 [(e55 t2.1),(eI64 (0:Int)),(eStr (ByteArray.mk #[105,102,115]))] (eI64 t10) 22 rfl (by decide) ok35 rfl rfl (bD (decide_eq_true c9)) rfl rfl ⟨rfl,rfl,rfl,rfl,rfl,rfl,trivial⟩ (F35_spec et10) ?_
      exact .q 22
     ·refine .wK [19,20,22] ?_
      refine .callG 9 true 19 [(e55 t2.1),(eI64 t10)] (eI64 t11) 23 rfl (by decide) ok34 rfl rfl (bD (decide_eq_true c9)) rfl rfl ⟨rfl,rfl,rfl,rfl,trivial⟩ (F34_spec et11) ?_
      exact .q 23
     ·refine .a 1 ?_
      exact .q 24
     ·refine .a 1 ?_
      exact .q 25
     ·refine .a 1 ?_
      exact .q 26
     ·refine .a 1 ?_
      exact .q 27
     ·refine .a 1 ?_
      exact .q 28
     ·refine .a 1 ?_
      exact .q 29
     ·refine .a 1 ?_
      exact .q 30
     ·refine .a 1 ?_
      exact .q 31
     refine .a 1 ?_
     exact .q 0
    cases q5
    exact⟨rfl,rfl,rfl⟩
   refine .regAny (by rfl) (by decide+kernel) [(eI64 t2.2),(eBool (decide (t2.2=(0:Int)))),(eBool (decide (t2.2=(0:Int)))),(e55 t2.1),(e55 t2.1),(eI64 t7),(eI64 t8),(eBool (decide (t8=(0:Int)))),(eBool (decide (t8=(0:Int)))),(eBool (decide (t8=(0:Int)))),(.fl undef),(.fl undef),(.fl undef),(.fl undef),(.fl undef),(eBool false),(eBool false),(.fl undef),(.fl undef),(.fl undef),(.fl undef),(eBool false),(eBool false)] [(1,(.ptr n3 0)),(2,(eI64 t2.2))] ⟨rfl,rfl,trivial⟩ rfl ?_ [(0,(eBool false))] [] ⟨rfl,trivial⟩ (.nil _) ?_
   ·refine⟨?_,?_,?_,?_,?_,?_,?_,?_,?_,?_,?_,?_,?_,?_,?_,?_,?_,?_,?_,?_,?_,?_,?_,trivial⟩
    ·refine .a 1 ?_
     exact .q 10
    ·refine .a 1 ?_
     exact .q 11
    ·refine .a 1 ?_
     exact .q 12
    ·refine .a 1 ?_
     exact .q 13
    ·refine .a 1 ?_
     exact .q 14
    ·refine .wK [12,14] ?_
     refine .callG 2 true 12 [(e55 t2.1),(eI64 (0:Int)),(eStr (ByteArray.mk #[105,102]))] (eI64 t7) 15 rfl (by decide) ok35 rfl rfl (bD (decide_eq_true c6)) rfl rfl ⟨rfl,rfl,rfl,rfl,rfl,rfl,trivial⟩ (F35_spec et7) ?_
     exact .q 15
    ·refine .wK [12,13,15] ?_
     refine .callG 2 true 12 [(e55 t2.1),(eI64 t7)] (eI64 t8) 16 rfl (by decide) ok34 rfl rfl (bD (decide_eq_true c6)) rfl rfl ⟨rfl,rfl,rfl,rfl,trivial⟩ (F34_spec et8) ?_
     exact .q 16
    ·refine .a 1 ?_
     exact .q 17
    ·refine .a 1 ?_
     exact .q 18
    ·refine .a 1 ?_
     exact .q 19
    ·refine .a 1 ?_
     exact .q 20
    ·refine .a 1 ?_
     exact .q 21
    ·refine .a 1 ?_
     exact .q 22
    ·refine .a 1 ?_
     exact .q 23
    ·refine .a 1 ?_
     exact .q 24
    ·refine .a 1 ?_
     exact .q 25
    ·refine .a 1 ?_
     exact .q 26
    ·refine .a 1 ?_
     exact .q 27
    ·refine .a 1 ?_
     exact .q 28
    ·refine .a 1 ?_
     exact .q 29
    ·refine .a 1 ?_
     exact .q 30
    ·refine .a 1 ?_
     exact .q 31
    refine .a 1 ?_
    exact .q 0
   cases q5
   exact⟨rfl,rfl,rfl⟩
  refine .regAny (by rfl) (by decide+kernel) [(eI64 t2.2),(eBool (decide (t2.2=(0:Int)))),(eBool (decide (t2.2=(0:Int)))),(.fl undef),(.fl undef),(.fl undef),(.fl undef),(.fl undef),(eBool false),(eBool false),(.fl undef),(.fl undef),(.fl undef),(.fl undef),(.fl undef),(eBool false),(eBool false),(.fl undef),(.fl undef),(.fl undef),(.fl undef),(eBool false),(eBool false)] [(1,(.ptr n3 0)),(2,(eI64 t2.2))] ⟨rfl,rfl,trivial⟩ rfl ?_ [(0,(eBool false))] [] ⟨rfl,trivial⟩ (.nil _) ?_
  ·refine⟨?_,?_,?_,?_,?_,?_,?_,?_,?_,?_,?_,?_,?_,?_,?_,?_,?_,?_,?_,?_,?_,?_,?_,trivial⟩
   ·refine .a 1 ?_
    exact .q 10
   ·refine .a 1 ?_
    exact .q 11
   ·refine .a 1 ?_
    exact .q 12
   ·refine .a 1 ?_
    exact .q 13
   ·refine .a 1 ?_
    exact .q 14
   ·refine .a 1 ?_
    exact .q 15
   ·refine .a 1 ?_
    exact .q 16
   ·refine .a 1 ?_
    exact .q 17
   ·refine .a 1 ?_
    exact .q 18
   ·refine .a 1 ?_
    exact .q 19
   ·refine .a 1 ?_
    exact .q 20
   ·refine .a 1 ?_
    exact .q 21
   ·refine .a 1 ?_
    exact .q 22
   ·refine .a 1 ?_
    exact .q 23
   ·refine .a 1 ?_
    exact .q 24
   ·refine .a 1 ?_
    exact .q 25
   ·refine .a 1 ?_
    exact .q 26
   ·refine .a 1 ?_
    exact .q 27
   ·refine .a 1 ?_
    exact .q 28
   ·refine .a 1 ?_
    exact .q 29
   ·refine .a 1 ?_
    exact .q 30
   ·refine .a 1 ?_
    exact .q 31
   refine .a 1 ?_
   exact .q 0
  cases q5
  exact⟨rfl,rfl,rfl⟩
 refine .rK [0] ?_
 have hr:=Option.some.inj h
 subst hr
 exact⟨[(eBool b4)],⟨rfl,rfl,trivial⟩,rfl⟩
def F32 (k:Nat) (p0:ByteArray):Option (S55×Int):=
 (F62 k p0).bind fun t3=>
 if t3.2≠(0:Int)then some ((S55.mk (Vector.replicate 256 (0:Int)) ([]:List (List Int)) ([]:List Int)),t3.2)
 else(F63 k t3.1).bind fun t6=>
 some (t6.1,t6.2)
theorem F32_spec {k:Nat} {p0:ByteArray} {r:(S55×Int)} (h:F32 k p0=some r):Spec Try.prog 32 [(eStr p0)] (.tup [(e55 r.1),(eI64 r.2)]):=by
 rw[F32.eq_1]at h
 refine Spec.intro (res:=[.cell 2 55,.tmp 3]) Try.func32 rfl rfl rfl (Nat.le_of_ble_eq_true rfl) ?_
 refine .sr ?_
 refine .alloc rfl 2 rfl (by decide) rfl zr55 lay55 fun n2=>?_
 refine .a 5 ?_
 obtain⟨t3,et3,h⟩:=ob h
 refine .callS [(eStr p0)] (.tup [(e55 t3.1),(eI64 t3.2)]) 8 rfl (by decide) ok62 rfl rfl rfl ⟨rfl,rfl,trivial⟩ (F62_spec et3) ?_
 refine .a 3 ?_
 refine .alloc rfl 4 rfl (by decide) rfl zr55 lay55 fun n4=>?_
 refine .store 0 rfl rfl rfl rfl rfl rfl (.cast .here rfl) rfl rfl sz55 rfl ?_
 refine .a 1 ?_
 refine .nS [2,4,5] [1,0] ?_
 refine .a 6 ?_
 rcases oi h with⟨c5,h⟩|⟨c5,h⟩
 ·refine .a 3 ?_
  refine .c (x:=(Z0 ((Vector.replicate 256 (0:Int)).toList.map eU8))) (.build (qs:=[]) rfl trivial Try.underlying55 rfl zr55 lay55 .nil rfl) ?_
  refine .a 1 ?_
  refine .store 0 rfl rfl rfl rfl rfl rfl (.cast .here rfl) rfl rfl sz55 rfl ?_
  refine .a 1 ?_
  refine .nS [2,3] [0] ?_
  refine .coeFld (X':=(Z22 ((Vector.replicate 256 (0:Int)).toList.map eU8) ([]:List (List Int)))) 0 rfl (.cast (.fldS (.fld0 .here)) rfl) rfl (nil_fz 1) rfl rfl ?_
  refine .coeFld (X':=(Z16 ((Vector.replicate 256 (0:Int)).toList.map eU8) ([]:List (List Int)) ([]:List Int))) 0 rfl (.cast (.fldS (.fldS (.fld0 .here))) rfl) rfl (nil_fz 1) rfl rfl ?_
  refine .rK [2,3] ?_
  cases h
  exact⟨[(e55 (S55.mk (Vector.replicate 256 (0:Int)) ([]:List (List Int)) ([]:List Int))),(eI64 t3.2)],⟨⟨_,0,rfl,rfl,ag55,sz55⟩,rfl,rfl,trivial⟩,rfl⟩
 refine .a 5 ?_
 obtain⟨t6,et6,h⟩:=ob h
 refine .callS [(e55 t3.1)] (.tup [(e55 t6.1),(eI64 t6.2)]) 16 rfl (by decide) ok63 rfl rfl rfl ⟨rfl,rfl,trivial⟩ (F63_spec et6) ?_
 refine .a 2 ?_
 refine .store 0 rfl rfl rfl rfl rfl rfl (.cast .here rfl) rfl rfl sz55 rfl ?_
 refine .a 1 ?_
 refine .nS [2,3] [0] ?_
 refine .rK [2,3] ?_
 cases h
 exact⟨[(e55 t6.1),(eI64 t6.2)],⟨⟨_,0,rfl,rfl,ag55,sz55⟩,rfl,rfl,trivial⟩,rfl⟩
def F109_c0 (k:Nat):Option Bool:=
 some (false)
def F109_l1 (k:Nat) (p0:ByteArray) (p1:Int):Nat→Int→Option Bool
 | 0,_=>none
 | j+1,x3=>
   if x3<(p0.size:Int)then if 0≤x3∧x3<(p0.size:Int)then if(byteAt p0 x3)=p1 then some (true)
   else(F109_l1 k p0 p1 j) (w64 (x3+(1:Int)))
   else none
   else F109_c0 k
def F109 (k:Nat) (p0:ByteArray) (p1:Int):Option Bool:=
 F109_l1 k p0 p1 k (0:Int)
theorem F109_spec {k:Nat} {p0:ByteArray} {p1:Int} {r:Bool} (h:F109 k p0 p1=some r):Spec Try.prog 109 [(eStr p0),(eU8 p1)] (eBool r):=by
 rw[F109.eq_1]at h
 refine Spec.intro (res:=[.tmp 4]) Try.func109 rfl rfl rfl (Nat.le_of_ble_eq_true rfl) ?_
 refine .a 3 ?_
 refine .nK [0,1] ?_
 refine .seq_mid (fun ρ H=>ρ=[]∧H=[]∧F109_c0 k=some r) ?_ ?_
 ·refine .a 5 ?_
  refine .wK [0,1,5] ?_
  refine .loop (fun kq ρ H=>∃ (x3:Int),ρ=[(0,(eStr p0)),(1,(eU8 p1)),(5,(eI64 x3))]∧H=[]∧F109_l1 k p0 p1 kq x3=some r) k ⟨(0:Int),rfl,rfl,h⟩ ?_
  rintro kq5 _ _ ⟨x3,rfl,rfl,h⟩
  cases kq5 with
  | zero=>rw[F109_l1.eq_1]at h;cases h
  | succ kq5=>
  rw[F109_l1.eq_2]at h
  generalize hrec4:F109_l1 k p0 p1 kq5=rec4 at h
  refine .a 8 ?_
  rcases oi h with⟨c6,h⟩|⟨c6,h⟩
  ·refine .a 8 ?_
   obtain⟨g7,h⟩:=of_guard h
   refine .a 4 ?_
   rcases oi h with⟨c8,h⟩|⟨c8,h⟩
   ·refine .a 4 ?_
    refine .nK [4] ?_
    refine .rK [4] ?_
    have hr:=Option.some.inj h
    subst hr
    exact⟨[(eBool true)],⟨rfl,rfl,trivial⟩,rfl⟩
   refine .a 6 ?_
   refine .nK [0,1,5] ?_
   exact⟨kq5,Nat.lt_succ_self _,(w64 (x3+(1:Int))),rfl,rfl,by rw[hrec4];exact h⟩
  refine .a 1 ?_
  refine .eK [] ?_
  exact⟨rfl,rfl,h⟩
 rintro _ _ ⟨rfl,rfl,h⟩
 rw[F109_c0.eq_1]at h
 refine .a 3 ?_
 refine .nK [4] ?_
 refine .rK [4] ?_
 have hr:=Option.some.inj h
 subst hr
 exact⟨[(eBool false)],⟨rfl,rfl,trivial⟩,rfl⟩
def F85_c0 (k:Nat) (x5:Int):Option Bool:=
 some (decide ((x5.tmod (2:Int))=(1:Int)))
def F85_l1 (k:Nat) (p1:Int):Nat→Int→Int→Option Bool
 | 0,_,_=>none
 | j+1,x6,x7=>
   if x7<(p1.tmod (64:Int))then(F85_l1 k p1 j) (IntKind.u64.wrap (x6.tdiv (2:Int))) (w64 (x7+(1:Int)))
   else F85_c0 k x6
def F85 (k:Nat) (p0:(Vector Int 4)) (p1:Int):Option Bool:=
 if 0≤(IntKind.i64.wrap (p1.tdiv (64:Int)))∧(IntKind.i64.wrap (p1.tdiv (64:Int)))<(4:Int)then F85_l1 k p1 k (vget p0 (IntKind.i64.wrap (p1.tdiv (64:Int)))) (0:Int)
 else none
theorem F85_spec {k:Nat} {p0:(Vector Int 4)} {p1:Int} {r:Bool} (h:F85 k p0 p1=some r):Spec Try.prog 85 [(.ar 1 (p0.toList.map eU64)),(eI64 p1)] (eBool r):=by
 rw[F85.eq_1]at h
 refine Spec.intro (res:=[.tmp 4]) Try.func85 rfl rfl rfl (Nat.le_of_ble_eq_true rfl) ?_
 refine .sr ?_
 refine .box rfl 2 rfl (by decide) rfl rfl rfl fun n3=>?_
 refine .a 5 ?_
 refine .c (x:=eI64 (IntKind.i64.wrap (p1.tdiv (64:Int)))) (.quo rfl rfl rfl (by decide)) ?_
 obtain⟨g4,h⟩:=of_guard h
 refine .c (.idxP rfl rfl rfl g4 Try.underlying62 sz60) ?_
 refine .c (.load 0 rfl rfl rfl (.cast (.vidx (IntKind.i64.wrap (p1.tdiv (64:Int))) g4.1 g4.2 .here) (by omega)) ag60 sz60) ?_
 refine .ag rfl rfl ?_
 refine .nS [1,5] [] ?_
 refine .seq_mid (fun ρ H=>∃ (x5:Int),ρ=[(5,(eU64 x5))]∧H=[]∧F85_c0 k x5=some r) ?_ ?_
 ·refine .a 5 ?_
  refine .wK [1,5,6] ?_
  refine .loop (fun kq ρ H=>∃ (x6:Int) (x7:Int),ρ=[(1,(eI64 p1)),(5,(eU64 x6)),(6,(eI64 x7))]∧H=[]∧F85_l1 k p1 kq x6 x7=some r) k ⟨(vget p0 (IntKind.i64.wrap (p1.tdiv (64:Int)))),(0:Int),rfl,rfl,h⟩ ?_
  rintro kq9 _ _ ⟨x6,x7,rfl,rfl,h⟩
  cases kq9 with
  | zero=>rw[F85_l1.eq_1]at h;cases h
  | succ kq9=>
  rw[F85_l1.eq_2]at h
  generalize hrec8:F85_l1 k p1 kq9=rec8 at h
  refine .a 5 ?_
  refine .c (x:=eI64 (p1.tmod (64:Int))) (.rem rfl rfl rfl (by decide)) ?_
  refine .a 2 ?_
  rcases oi h with⟨c10,h⟩|⟨c10,h⟩
  ·refine .a 6 ?_
   refine .c (x:=eU64 (IntKind.u64.wrap (x6.tdiv (2:Int)))) (.quo rfl rfl rfl (by decide)) ?_
   refine .a 6 ?_
   refine .nK [1,5,6] ?_
   exact⟨kq9,Nat.lt_succ_self _,(IntKind.u64.wrap (x6.tdiv (2:Int))),(w64 (x7+(1:Int))),rfl,rfl,by rw[hrec8];exact h⟩
  refine .a 1 ?_
  refine .eK [5] ?_
  exact⟨x6,rfl,rfl,h⟩
 rintro _ _ ⟨x5,rfl,rfl,h⟩
 rw[F85_c0.eq_1]at h
 refine .a 3 ?_
 refine .c (x:=eU64 (x5.tmod (2:Int))) (.rem rfl rfl rfl (by decide)) ?_
 refine .a 2 ?_
 refine .nK [4] ?_
 refine .rK [4] ?_
 cases h
 exact⟨[(eBool (decide ((x5.tmod (2:Int))=(1:Int))))],⟨rfl,rfl,trivial⟩,rfl⟩
end Go.Avl.T7
