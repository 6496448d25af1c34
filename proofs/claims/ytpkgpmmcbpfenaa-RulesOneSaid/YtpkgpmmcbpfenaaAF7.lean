/- Parts: T7f139, T7f136, T7f130, T7f141, T7f131, T7f138, T7f137, T7f64, T7f33, T7f57, T7f56. -/
import Derived.Test.YtpkgpmmcbpfenaaAF1
import Derived.Test.YtpkgpmmcbpfenaaAF6
namespace Go.Avl.T7
open Go Go.RowKit Go.Proofs Go.Avl
set_option linter.unusedVariables false
set_option maxRecDepth 100000
set_option maxHeartbeats 4000000
attribute [local irreducible] AW AO AQ Spec SpecH Calm
def F139_c0 (k:Nat) (x4:(Vector Int 4)):Option (Vector Int 4):=
 some (x4)
def F139_c1 (k:Nat) (rec7:((Vector Int 4)→Int→Option (Vector Int 4))) (x6:Int) (x13:(Vector Int 4)):Option (Vector Int 4):=
 rec7 x13 (w64 (x6+(1:Int)))
def F139_l2 (k:Nat) (p0:(List Bool)):Nat→(Vector Int 4)→Int→Option (Vector Int 4)
 | 0,_,_=>none
 | j+1,x5,x6=>
   Option.bind (α:=Bool) (if x6<(256:Int)then some (decide (x6<(p0.length:Int)))
   else some (false)) fun b9=>
   if b9=true then if 0≤x6∧x6<(p0.length:Int)then if(lget p0 x6)=true then if 0≤(IntKind.i64.wrap (x6.tdiv (64:Int)))∧(IntKind.i64.wrap (x6.tdiv (64:Int)))<(4:Int)then if 0≤(u64 (x6.tmod (64:Int)))then if 0≤(IntKind.i64.wrap (x6.tdiv (64:Int)))∧(IntKind.i64.wrap (x6.tdiv (64:Int)))<(4:Int)then F139_c1 k (F139_l2 k p0 j) x6 (vset x5 (IntKind.i64.wrap (x6.tdiv (64:Int))) (u64 ((vget x5 (IntKind.i64.wrap (x6.tdiv (64:Int))))+(IntKind.u64.wrap ((1:Int)*2 ^ (min (u64 (x6.tmod (64:Int))).toNat IntKind.u64.bits))))))
   else none
   else none
   else none
   else F139_c1 k (F139_l2 k p0 j) x6 x5
   else none
   else F139_c0 k x5
def F139 (k:Nat) (p0:(List Bool)):Option (Vector Int 4):=
 F139_l2 k p0 k (Vector.replicate 4 (0:Int)) (0:Int)
theorem F139_spec {k:Nat} {p0:(List Bool)} {r:(Vector Int 4)} (h:F139 k p0=some r):Spec Try.prog 139 [(.fz 1 (p0.map eBool))] (e62 r):=by
 rw[F139.eq_1]at h
 refine Spec.intro (res:=[.cell 2 62]) Try.func139 rfl rfl rfl (Nat.le_of_ble_eq_true rfl) ?_
 refine .sr ?_
 refine .alloc rfl 2 rfl (by decide) rfl zr62 lay62 fun n2=>?_
 refine .a 3 ?_
 refine .alloc rfl 3 rfl (by decide) rfl zr62 lay62 fun n3=>?_
 refine .nS [0,2,3] [1,0] ?_
 refine .seq_mid (fun ρ H=>∃ (x4:(Vector Int 4)),ρ=[(2,(.ptr n2 0)),(3,(.ptr n3 0))]∧H=[(Z13 n2 ((Vector.replicate 4 (0:Int)).toList.map eU64)),(Z13 n3 (x4.toList.map eU64))]∧F139_c0 k x4=some r) ?_ ?_
 ·refine .a 5 ?_
  refine .wK [0,2,3,4] ?_
  refine .loop (fun kq ρ H=>∃ (x5:(Vector Int 4)) (x6:Int),ρ=[(0,(.fz 1 (p0.map eBool))),(2,(.ptr n2 0)),(3,(.ptr n3 0)),(4,(eI64 x6))]∧H=[(Z13 n2 ((Vector.replicate 4 (0:Int)).toList.map eU64)),(Z13 n3 (x5.toList.map eU64))]∧F139_l2 k p0 kq x5 x6=some r) k ⟨(Vector.replicate 4 (0:Int)),(0:Int),rfl,rfl,h⟩ ?_
  rintro kq8 _ _ ⟨x5,x6,rfl,rfl,h⟩
  cases kq8 with
  | zero=>rw[F139_l2.eq_1]at h;cases h
  | succ kq8=>
  rw[F139_l2.eq_2]at h
  generalize hrec7:F139_l2 k p0 kq8=rec7 at h
  refine .a 2 ?_
  obtain⟨b9,q10,h⟩:=ob h
  refine .regM [(0,(.fz 1 (p0.map eBool))),(2,(.ptr n2 0)),(3,(.ptr n3 0)),(4,(eI64 x6)),(12,(eBool b9))] [(Z13 n2 ((Vector.replicate 4 (0:Int)).toList.map eU64)),(Z13 n3 (x5.toList.map eU64))] ?_ ?_
  ·refine .a 3 ?_
   rcases oi q10 with⟨c11,q10⟩|⟨c11,q10⟩
   ·refine .a 5 ?_
    cases q10
    refine .nilE ⟨rfl,rfl⟩ ?_ ?_
    ·exact⟨rfl,rfl,rfl,rfl,rfl,trivial⟩
    exact(.refl _)
   refine .a 5 ?_
   cases q10
   refine .nilE ⟨rfl,rfl⟩ ?_ ?_
   ·exact⟨rfl,rfl,rfl,rfl,rfl,trivial⟩
   exact(.refl _)
  rcases oi h with⟨c12,h⟩|⟨c12,h⟩
  ·refine .a 1 ?_
   refine .sK [0,2,3,4] ?_
   refine .seq_mid (fun ρ H=>∃ (x13:(Vector Int 4)),ρ=[(0,(.fz 1 (p0.map eBool))),(2,(.ptr n2 0)),(3,(.ptr n3 0)),(4,(eI64 x6))]∧H=[(Z13 n2 ((Vector.replicate 4 (0:Int)).toList.map eU64)),(Z13 n3 (x13.toList.map eU64))]∧F139_c1 k rec7 x6 x13=some r) ?_ ?_
   ·refine .a 5 ?_
    obtain⟨g14,h⟩:=of_guard h
    refine .a 3 ?_
    rcases oi h with⟨c15,h⟩|⟨c15,h⟩
    ·refine .a 3 ?_
     refine .c (x:=eI64 (IntKind.i64.wrap (x6.tdiv (64:Int)))) (.quo rfl rfl rfl (by decide)) ?_
     refine .a 1 ?_
     refine .c (x:=eI64 (IntKind.i64.wrap (x6.tdiv (64:Int)))) (.quo rfl rfl rfl (by decide)) ?_
     obtain⟨g16,h⟩:=of_guard h
     refine .c (.idxP rfl rfl rfl g16 Try.underlying62 sz60) ?_
     refine .c (.load 1 rfl rfl rfl (.cast (.vidx (IntKind.i64.wrap (x6.tdiv (64:Int))) g16.1 g16.2 .here) (by omega)) ag60 sz60) ?_
     refine .mv rfl rfl ?_
     refine .c (x:=eI64 (x6.tmod (64:Int))) (.rem rfl rfl rfl (by decide)) ?_
     refine .a 1 ?_
     obtain⟨g17,h⟩:=of_guard h
     refine .c (x:=eU64 (IntKind.u64.wrap ((1:Int)*2 ^ (min (u64 (x6.tmod (64:Int))).toNat IntKind.u64.bits)))) (.shl rfl rfl rfl g17) ?_
     refine .a 1 ?_
     obtain⟨g18,h⟩:=of_guard h
     refine .c (.idxP rfl rfl rfl g18 Try.underlying62 sz60) ?_
     refine .store 1 rfl rfl rfl rfl rfl rfl (.cast (.vidx (IntKind.i64.wrap (x6.tdiv (64:Int))) (u64 ((vget x5 (IntKind.i64.wrap (x6.tdiv (64:Int))))+(IntKind.u64.wrap ((1:Int)*2 ^ (min (u64 (x6.tmod (64:Int))).toNat IntKind.u64.bits))))) g18.1 g18.2 .here) (by omega)) rfl rfl sz60 rfl ?_
     refine .nK [0,2,3,4] ?_
     exact⟨(vset x5 (IntKind.i64.wrap (x6.tdiv (64:Int))) (u64 ((vget x5 (IntKind.i64.wrap (x6.tdiv (64:Int))))+(IntKind.u64.wrap ((1:Int)*2 ^ (min (u64 (x6.tmod (64:Int))).toNat IntKind.u64.bits)))))),rfl,rfl,h⟩
    refine .a 1 ?_
    refine .sK [0,2,3,4] ?_
    exact⟨x5,rfl,rfl,h⟩
   rintro _ _ ⟨x13,rfl,rfl,h⟩
   rw[F139_c1.eq_1]at h
   refine .a 4 ?_
   refine .nK [0,2,3,4] ?_
   exact⟨kq8,Nat.lt_succ_self _,x13,(w64 (x6+(1:Int))),rfl,rfl,by rw[hrec7];exact h⟩
  refine .a 1 ?_
  refine .eK [2,3] ?_
  exact⟨x5,rfl,rfl,h⟩
 rintro _ _ ⟨x4,rfl,rfl,h⟩
 rw[F139_c0.eq_1]at h
 refine .a 3 ?_
 refine .store 0 rfl rfl rfl rfl rfl rfl (.cast .here rfl) rfl (by simp[AV.size]) (by rw[sz62];simp[AV.size]) rfl ?_
 refine .nS [2] [0] ?_
 refine .rK [2] ?_
 have hr:=Option.some.inj h
 subst hr
 exact⟨[(.ar 1 (x4.toList.map eU64))],⟨⟨_,0,rfl,rfl,ag62,(by rw[sz62];simp[AV.size])⟩,trivial⟩,rfl⟩
def F136_c0 (k:Nat) (x8:(List Bool)):Option (Vector Int 4):=
 (F139 k x8).bind fun t9=>
 some (t9)
def F136_c1 (k:Nat) (rec13:((List Bool)→Int→Option (Vector Int 4))) (x12:Int) (x17:(List Bool)):Option (Vector Int 4):=
 rec13 x17 (w64 (x12+(1:Int)))
def F136_l2 (k:Nat) (p0:Int) (p1:(Vector Int 4)) (p2:(Vector Int 4)):Nat→(List Bool)→Int→Option (Vector Int 4)
 | 0,_,_=>none
 | j+1,x11,x12=>
   if x12<(256:Int)then(F85 k p1 x12).bind fun t18=>
   (F85 k p2 x12).bind fun t19=>
   if p0=(0:Int)then if t18=true then if(x11++([true]:List Bool)).length*1≤140737488355328 then F136_c1 k (F136_l2 k p0 p1 p2 j) x12 (x11++([true]:List Bool))
   else none
   else if(x11++([t19]:List Bool)).length*1≤140737488355328 then F136_c1 k (F136_l2 k p0 p1 p2 j) x12 (x11++([t19]:List Bool))
   else none
   else if p0=(1:Int)then if t18=true then if(x11++([t19]:List Bool)).length*1≤140737488355328 then F136_c1 k (F136_l2 k p0 p1 p2 j) x12 (x11++([t19]:List Bool))
   else none
   else if(x11++([false]:List Bool)).length*1≤140737488355328 then F136_c1 k (F136_l2 k p0 p1 p2 j) x12 (x11++([false]:List Bool))
   else none
   else if p0=(2:Int)then if t18=true then if(x11++([!t19]:List Bool)).length*1≤140737488355328 then F136_c1 k (F136_l2 k p0 p1 p2 j) x12 (x11++([!t19]:List Bool))
   else none
   else if(x11++([false]:List Bool)).length*1≤140737488355328 then F136_c1 k (F136_l2 k p0 p1 p2 j) x12 (x11++([false]:List Bool))
   else none
   else if(x11++([!t18]:List Bool)).length*1≤140737488355328 then F136_c1 k (F136_l2 k p0 p1 p2 j) x12 (x11++([!t18]:List Bool))
   else none
   else F136_c0 k x11
def F136 (k:Nat) (p0:Int) (p1:(Vector Int 4)) (p2:(Vector Int 4)):Option (Vector Int 4):=
 F136_l2 k p0 p1 p2 k ([]:List Bool) (0:Int)
theorem F136_spec {k:Nat} {p0:Int} {p1:(Vector Int 4)} {p2:(Vector Int 4)} {r:(Vector Int 4)} (h:F136 k p0 p1 p2=some r):Spec Try.prog 136 [(eI64 p0),(.ar 1 (p1.toList.map eU64)),(.ar 1 (p2.toList.map eU64))] (e62 r):=by
 rw[F136.eq_1]at h
 refine Spec.intro (res:=[.cell 6 62]) Try.func136 rfl rfl rfl (Nat.le_of_ble_eq_true rfl) ?_
 refine .sr ?_
 refine .box rfl 4 rfl (by decide) rfl rfl rfl fun n4=>?_
 refine .box rfl 5 rfl (by decide) rfl rfl rfl fun n5=>?_
 refine .alloc rfl 6 rfl (by decide) rfl zr62 lay62 fun n6=>?_
 refine .nS [0,4,5,6] [2,1,0] ?_
 refine .a 3 ?_
 refine .nK [0,4,5,6,7] ?_
 refine .seq_mid (fun ρ H=>∃ (n7:Nat) (x8:(List Bool)),ρ=[(6,(.ptr n6 0)),(7,(.own n7 0 x8.length))]∧H=[(Z13 n6 ((Vector.replicate 4 (0:Int)).toList.map eU64)),(Z9 n7 x8)]∧F136_c0 k x8=some r) ?_ ?_
 ·refine .a 5 ?_
  refine .nilOwn 7 1 rfl fun n47=>?_
  refine .wH [0,4,5,6,7,8] (H':=[(Z13 n4 (p1.toList.map eU64)),(Z13 n5 (p2.toList.map eU64)),(Z13 n6 ((Vector.replicate 4 (0:Int)).toList.map eU64)),(Z9 n47 ([]:List Bool))]) (.cons 1 rfl (.cons 1 rfl (.cons 1 rfl (.cons 0 rfl (.nil _))))) ?_
  refine .loop (fun kq ρ H=>∃ (n10:Nat) (x11:(List Bool)) (x12:Int),ρ=[(0,(eI64 p0)),(4,(.ptr n4 0)),(5,(.ptr n5 0)),(6,(.ptr n6 0)),(7,(.own n10 0 x11.length)),(8,(eI64 x12))]∧H=[(Z13 n4 (p1.toList.map eU64)),(Z13 n5 (p2.toList.map eU64)),(Z13 n6 ((Vector.replicate 4 (0:Int)).toList.map eU64)),(Z9 n10 x11)]∧F136_l2 k p0 p1 p2 kq x11 x12=some r) k ⟨n47,([]:List Bool),(0:Int),rfl,rfl,h⟩ ?_
  rintro kq14 _ _ ⟨n10,x11,x12,rfl,rfl,h⟩
  cases kq14 with
  | zero=>rw[F136_l2.eq_1]at h;cases h
  | succ kq14=>
  rw[F136_l2.eq_2]at h
  generalize hrec13:F136_l2 k p0 p1 p2 kq14=rec13 at h
  refine .a 6 ?_
  rcases oi h with⟨c15,h⟩|⟨c15,h⟩
  ·refine .a 1 ?_
   refine .sK [0,4,5,6,7,8] ?_
   refine .seq_mid (fun ρ H=>∃ (n16:Nat) (x17:(List Bool)),ρ=[(0,(eI64 p0)),(4,(.ptr n4 0)),(5,(.ptr n5 0)),(6,(.ptr n6 0)),(7,(.own n16 0 x17.length)),(8,(eI64 x12))]∧H=[(Z13 n4 (p1.toList.map eU64)),(Z13 n5 (p2.toList.map eU64)),(Z13 n6 ((Vector.replicate 4 (0:Int)).toList.map eU64)),(Z9 n16 x17)]∧F136_c1 k rec13 x12 x17=some r) ?_ ?_
   ·refine .a 2 ?_
    refine .regQ (by rfl) (by decide+kernel) ?_
    refine .a 2 ?_
    obtain⟨t18,et18,h⟩:=ob h
    refine .c (.call (args:=[(.ar 1 (p1.toList.map eU64)),(eI64 x12)]) rfl rfl ok85 ⟨rfl,rfl,rfl,rfl,trivial⟩ rfl (F85_spec et18)) ?_
    refine .a 2 ?_
    obtain⟨t19,et19,h⟩:=ob h
    refine .c (.call (args:=[(.ar 1 (p2.toList.map eU64)),(eI64 x12)]) rfl rfl ok85 ⟨rfl,rfl,rfl,rfl,trivial⟩ rfl (F85_spec et19)) ?_
    refine .c (.assign rfl rfl) ?_
    refine .c (.assign rfl rfl) ?_
    refine .nK [0,4,5,6,7,8,9,10] ?_
    refine .sr ?_
    refine .mv rfl rfl ?_
    refine .nK [0,4,5,6,7,8,9,10,21] ?_
    refine .block ?_
    refine .sr ?_
    refine .c (x:=eBool (decide (p0=(0:Int)))) (.int rfl rfl rfl rfl) ?_
    refine .ag rfl rfl ?_
    refine .nK [0,4,5,6,7,8,9,10,21,27] ?_
    rcases oi h with⟨c20,h⟩|⟨c20,h⟩
    ·refine .a 5 ?_
     rcases oi h with⟨c21,h⟩|⟨c21,h⟩
     ·refine .a 2 ?_
      refine .lit (Z:=(eBool false)) (xs:=(([true]:List Bool).map eBool)) (qs:=[(0,(eBool true))]) rfl 34 rfl (by decide) rfl ⟨rfl,rfl,rfl,trivial⟩ Try.underlying98 sz4 zr4 lay4 rfl (by decide) (litOK (z:=1) [(eBool true)] rfl ⟨⟨rfl,rfl⟩,trivial⟩) rfl fun n22=>?_
      obtain⟨g24,h⟩:=of_guard h
      refine .appendL (l:=x11) (m:=([true]:List Bool)) 4 35 rfl (by decide) rfl rfl rfl rfl rfl (Src.ownL (f:=eBool) (l:=([true]:List Bool)) 0 rfl) Try.underlying98 Try.underlying98 sz4 by4 zr4 rfl g24 (by decide) fun n23=>?_
      refine .a 1 ?_
      refine .nS [0,4,5,6,7,8] [1,2,3,4] ?_
      exact⟨n23,(x11++([true]:List Bool)),rfl,rfl,h⟩
     refine .a 2 ?_
     refine .lit (Z:=(eBool false)) (xs:=(([t19]:List Bool).map eBool)) (qs:=[(0,(eBool t19))]) rfl 34 rfl (by decide) rfl ⟨rfl,rfl,rfl,trivial⟩ Try.underlying98 sz4 zr4 lay4 rfl (by decide) (litOK (z:=1) [(eBool t19)] rfl ⟨⟨rfl,rfl⟩,trivial⟩) rfl fun n25=>?_
     obtain⟨g27,h⟩:=of_guard h
     refine .appendL (l:=x11) (m:=([t19]:List Bool)) 4 35 rfl (by decide) rfl rfl rfl rfl rfl (Src.ownL (f:=eBool) (l:=([t19]:List Bool)) 0 rfl) Try.underlying98 Try.underlying98 sz4 by4 zr4 rfl g27 (by decide) fun n26=>?_
     refine .a 1 ?_
     refine .nS [0,4,5,6,7,8] [1,2,3,4] ?_
     exact⟨n26,(x11++([t19]:List Bool)),rfl,rfl,h⟩
    refine .a 6 ?_
    rcases oi h with⟨c28,h⟩|⟨c28,h⟩
    ·refine .a 5 ?_
     rcases oi h with⟨c29,h⟩|⟨c29,h⟩
     ·refine .a 2 ?_
      refine .lit (Z:=(eBool false)) (xs:=(([t19]:List Bool).map eBool)) (qs:=[(0,(eBool t19))]) rfl 43 rfl (by decide) rfl ⟨rfl,rfl,rfl,trivial⟩ Try.underlying98 sz4 zr4 lay4 rfl (by decide) (litOK (z:=1) [(eBool t19)] rfl ⟨⟨rfl,rfl⟩,trivial⟩) rfl fun n30=>?_
      obtain⟨g32,h⟩:=of_guard h
      refine .appendL (l:=x11) (m:=([t19]:List Bool)) 4 44 rfl (by decide) rfl rfl rfl rfl rfl (Src.ownL (f:=eBool) (l:=([t19]:List Bool)) 0 rfl) Try.underlying98 Try.underlying98 sz4 by4 zr4 rfl g32 (by decide) fun n31=>?_
      refine .a 1 ?_
      refine .nS [0,4,5,6,7,8] [1,2,3,4] ?_
      exact⟨n31,(x11++([t19]:List Bool)),rfl,rfl,h⟩
     refine .a 2 ?_
     refine .lit (Z:=(eBool false)) (xs:=(([false]:List Bool).map eBool)) (qs:=[(0,(eBool false))]) rfl 43 rfl (by decide) rfl ⟨rfl,rfl,rfl,trivial⟩ Try.underlying98 sz4 zr4 lay4 rfl (by decide) (litOK (z:=1) [(eBool false)] rfl ⟨⟨rfl,rfl⟩,trivial⟩) rfl fun n33=>?_
     obtain⟨g35,h⟩:=of_guard h
     refine .appendL (l:=x11) (m:=([false]:List Bool)) 4 44 rfl (by decide) rfl rfl rfl rfl rfl (Src.ownL (f:=eBool) (l:=([false]:List Bool)) 0 rfl) Try.underlying98 Try.underlying98 sz4 by4 zr4 rfl g35 (by decide) fun n34=>?_
     refine .a 1 ?_
     refine .nS [0,4,5,6,7,8] [1,2,3,4] ?_
     exact⟨n34,(x11++([false]:List Bool)),rfl,rfl,h⟩
    refine .a 6 ?_
    rcases oi h with⟨c36,h⟩|⟨c36,h⟩
    ·refine .a 5 ?_
     rcases oi h with⟨c37,h⟩|⟨c37,h⟩
     ·refine .a 3 ?_
      refine .lit (Z:=(eBool false)) (xs:=(([!t19]:List Bool).map eBool)) (qs:=[(0,(eBool (!t19)))]) rfl 53 rfl (by decide) rfl ⟨rfl,rfl,rfl,trivial⟩ Try.underlying98 sz4 zr4 lay4 rfl (by decide) (litOK (z:=1) [(eBool (!t19))] rfl ⟨⟨rfl,rfl⟩,trivial⟩) rfl fun n38=>?_
      obtain⟨g40,h⟩:=of_guard h
      refine .appendL (l:=x11) (m:=([!t19]:List Bool)) 4 54 rfl (by decide) rfl rfl rfl rfl rfl (Src.ownL (f:=eBool) (l:=([!t19]:List Bool)) 0 rfl) Try.underlying98 Try.underlying98 sz4 by4 zr4 rfl g40 (by decide) fun n39=>?_
      refine .a 1 ?_
      refine .nS [0,4,5,6,7,8] [1,2,3,4] ?_
      exact⟨n39,(x11++([!t19]:List Bool)),rfl,rfl,h⟩
     refine .a 3 ?_
     refine .lit (Z:=(eBool false)) (xs:=(([false]:List Bool).map eBool)) (qs:=[(0,(eBool false))]) rfl 53 rfl (by decide) rfl ⟨rfl,rfl,rfl,trivial⟩ Try.underlying98 sz4 zr4 lay4 rfl (by decide) (litOK (z:=1) [(eBool false)] rfl ⟨⟨rfl,rfl⟩,trivial⟩) rfl fun n41=>?_
     obtain⟨g43,h⟩:=of_guard h
     refine .appendL (l:=x11) (m:=([false]:List Bool)) 4 54 rfl (by decide) rfl rfl rfl rfl rfl (Src.ownL (f:=eBool) (l:=([false]:List Bool)) 0 rfl) Try.underlying98 Try.underlying98 sz4 by4 zr4 rfl g43 (by decide) fun n42=>?_
     refine .a 1 ?_
     refine .nS [0,4,5,6,7,8] [1,2,3,4] ?_
     exact⟨n42,(x11++([false]:List Bool)),rfl,rfl,h⟩
    refine .a 5 ?_
    refine .lit (Z:=(eBool false)) (xs:=(([!t18]:List Bool).map eBool)) (qs:=[(0,(eBool (!t18)))]) rfl 25 rfl (by decide) rfl ⟨rfl,rfl,rfl,trivial⟩ Try.underlying98 sz4 zr4 lay4 rfl (by decide) (litOK (z:=1) [(eBool (!t18))] rfl ⟨⟨rfl,rfl⟩,trivial⟩) rfl fun n44=>?_
    obtain⟨g46,h⟩:=of_guard h
    refine .appendL (l:=x11) (m:=([!t18]:List Bool)) 4 26 rfl (by decide) rfl rfl rfl rfl rfl (Src.ownL (f:=eBool) (l:=([!t18]:List Bool)) 0 rfl) Try.underlying98 Try.underlying98 sz4 by4 zr4 rfl g46 (by decide) fun n45=>?_
    refine .a 1 ?_
    refine .nS [0,4,5,6,7,8] [1,2,3,4] ?_
    exact⟨n45,(x11++([!t18]:List Bool)),rfl,rfl,h⟩
   rintro _ _ ⟨n16,x17,rfl,rfl,h⟩
   rw[F136_c1.eq_1]at h
   refine .a 4 ?_
   refine .nK [0,4,5,6,7,8] ?_
   exact⟨kq14,Nat.lt_succ_self _,n16,x17,(w64 (x12+(1:Int))),rfl,rfl,by rw[hrec13];exact h⟩
  refine .a 1 ?_
  refine .eH [6,7] (H':=[(Z13 n6 ((Vector.replicate 4 (0:Int)).toList.map eU64)),(Z9 n10 x11)]) (.cons 2 rfl (.cons 2 rfl (.nil _))) ?_
  exact⟨n10,x11,rfl,rfl,h⟩
 rintro _ _ ⟨n7,x8,rfl,rfl,h⟩
 rw[F136_c0.eq_1]at h
 refine .a 3 ?_
 obtain⟨t9,et9,h⟩:=ob h
 refine .freezeS 1 [(7,(.fz 1 (x8.map eBool))),(55,(.fz 1 (x8.map eBool)))] rfl ⟨fz_all rfl,fz_all rfl,trivial⟩ ?_
 refine .callS [(.fz 1 (x8.map eBool))] (.ar 1 (t9.toList.map eU64)) 56 rfl (by decide) ok139 rfl rfl rfl ⟨rfl,rfl,trivial⟩ (F139_spec et9) ?_
 refine .store 0 rfl rfl rfl rfl rfl rfl (.cast .here rfl) rfl (by simp[AV.size]) (by rw[sz62];simp[AV.size]) rfl ?_
 refine .nK [6] ?_
 refine .rK [6] ?_
 have hr:=Option.some.inj h
 subst hr
 exact⟨[(.ar 1 (t9.toList.map eU64))],⟨⟨_,0,rfl,rfl,ag62,(by rw[sz62];simp[AV.size])⟩,trivial⟩,rfl⟩
def F130_c0 (k:Nat):Option Bool:=
 some (false)
def F130_l1 (k:Nat) (p0:ByteArray) (p1:Int):Nat→Int→Option Bool
 | 0,_=>none
 | j+1,x3=>
   if x3<(p0.size:Int)then if 0≤x3∧x3<(p0.size:Int)then if(byteAt p0 x3)=p1 then some (true)
   else(F130_l1 k p0 p1 j) (w64 (x3+(1:Int)))
   else none
   else F130_c0 k
def F130 (k:Nat) (p0:ByteArray) (p1:Int):Option Bool:=
 F130_l1 k p0 p1 k (0:Int)
theorem F130_spec {k:Nat} {p0:ByteArray} {p1:Int} {r:Bool} (h:F130 k p0 p1=some r):Spec Try.prog 130 [(eStr p0),(eU8 p1)] (eBool r):=by
 rw[F130.eq_1]at h
 refine Spec.intro (res:=[.tmp 4]) Try.func130 rfl rfl rfl (Nat.le_of_ble_eq_true rfl) ?_
 refine .a 3 ?_
 refine .nK [0,1] ?_
 refine .seq_mid (fun ρ H=>ρ=[]∧H=[]∧F130_c0 k=some r) ?_ ?_
 ·refine .a 5 ?_
  refine .wK [0,1,5] ?_
  refine .loop (fun kq ρ H=>∃ (x3:Int),ρ=[(0,(eStr p0)),(1,(eU8 p1)),(5,(eI64 x3))]∧H=[]∧F130_l1 k p0 p1 kq x3=some r) k ⟨(0:Int),rfl,rfl,h⟩ ?_
  rintro kq5 _ _ ⟨x3,rfl,rfl,h⟩
  cases kq5 with
  | zero=>rw[F130_l1.eq_1]at h;cases h
  | succ kq5=>
  rw[F130_l1.eq_2]at h
  generalize hrec4:F130_l1 k p0 p1 kq5=rec4 at h
  refine .a 8 ?_
  rcases oi h with⟨c6,h⟩|⟨c6,h⟩
  ·refine .a 8 ?_
   obtain⟨g7,h⟩:=of_guard h
   refine .a 4 ?_
   rcases oi h with⟨c8,h⟩|⟨c8,h⟩
   ·refine .a 4 ?_
    refine .nK [4] ?_
    refine .rK [4] ?_
    have hr:=Option.some.inj h
    subst hr
    exact⟨[(eBool true)],⟨rfl,rfl,trivial⟩,rfl⟩
   refine .a 6 ?_
   refine .nK [0,1,5] ?_
   exact⟨kq5,Nat.lt_succ_self _,(w64 (x3+(1:Int))),rfl,rfl,by rw[hrec4];exact h⟩
  refine .a 1 ?_
  refine .eK [] ?_
  exact⟨rfl,rfl,h⟩
 rintro _ _ ⟨rfl,rfl,h⟩
 rw[F130_c0.eq_1]at h
 refine .a 3 ?_
 refine .nK [4] ?_
 refine .rK [4] ?_
 have hr:=Option.some.inj h
 subst hr
 exact⟨[(eBool false)],⟨rfl,rfl,trivial⟩,rfl⟩
def F141 (k:Nat) (p0:Int) (p1:ByteArray):Option ByteArray:=
 (some (ByteArray.mk #[48,49,50,51,52,53,54,55,56,57,97,98,99,100,101,102])).bind fun x3=>
 if p0=(10:Int)then some ((ByteArray.mk #[92,110]))
 else if p0=(9:Int)then some ((ByteArray.mk #[92,116]))
 else if p0=(13:Int)then some ((ByteArray.mk #[92,114]))
 else Option.bind (α:=Bool) (if p0<(32:Int)then some (true)
 else some (decide ((126:Int)<p0))) fun b7=>
 if b7=true then if 0≤(IntKind.u8.wrap (p0.tdiv (16:Int)))∧(IntKind.u8.wrap (p0.tdiv (16:Int)))≤(w8 ((IntKind.u8.wrap (p0.tdiv (16:Int)))+(1:Int)))∧(w8 ((IntKind.u8.wrap (p0.tdiv (16:Int)))+(1:Int)))≤(x3.size:Int)then if(ByteArray.mk #[92,120]).size+(x3.extract (IntKind.u8.wrap (p0.tdiv (16:Int))).toNat (w8 ((IntKind.u8.wrap (p0.tdiv (16:Int)))+(1:Int))).toNat).size≤9223372036854775807 then if 0≤(p0.tmod (16:Int))∧(p0.tmod (16:Int))≤(w8 ((p0.tmod (16:Int))+(1:Int)))∧(w8 ((p0.tmod (16:Int))+(1:Int)))≤(x3.size:Int)then if((ByteArray.mk #[92,120])++(x3.extract (IntKind.u8.wrap (p0.tdiv (16:Int))).toNat (w8 ((IntKind.u8.wrap (p0.tdiv (16:Int)))+(1:Int))).toNat)).size+(x3.extract (p0.tmod (16:Int)).toNat (w8 ((p0.tmod (16:Int))+(1:Int))).toNat).size≤9223372036854775807 then some ((((ByteArray.mk #[92,120])++(x3.extract (IntKind.u8.wrap (p0.tdiv (16:Int))).toNat (w8 ((IntKind.u8.wrap (p0.tdiv (16:Int)))+(1:Int))).toNat))++(x3.extract (p0.tmod (16:Int)).toNat (w8 ((p0.tmod (16:Int))+(1:Int))).toNat)))
 else none
 else none
 else none
 else none
 else Option.bind (α:=Bool) (if p0=(92:Int)then some (true)
 else(F130 k p1 p0).bind fun t18=>
 some (t18)) fun b15=>
 if b15=true then if(ByteArray.mk #[92]).size+(strOfNums ([p0]:List Int)).size≤9223372036854775807 then some (((ByteArray.mk #[92])++(strOfNums ([p0]:List Int))))
 else none
 else some ((strOfNums ([p0]:List Int)))
theorem F141_spec {k:Nat} {p0:Int} {p1:ByteArray} {r:ByteArray} (h:F141 k p0 p1=some r):Spec Try.prog 141 [(eU8 p0),(eStr p1)] (eStr r):=by
 rw[F141.eq_1]at h
 refine Spec.intro (res:=[.tmp 4]) Try.func141 rfl rfl rfl (Nat.le_of_ble_eq_true rfl) ?_
 refine .a 6 ?_
 obtain⟨x3,ex3,h⟩:=ob h
 refine .c (.assign rfl (congrArg (fun x=>some (eStr x)) (Option.some.inj ex3))) ?_
 refine .a 9 ?_
 rcases oi h with⟨c4,h⟩|⟨c4,h⟩
 ·refine .a 4 ?_
  refine .nK [4] ?_
  refine .rK [4] ?_
  cases h
  exact⟨[(eStr (ByteArray.mk #[92,110]))],⟨rfl,rfl,trivial⟩,rfl⟩
 refine .a 7 ?_
 rcases oi h with⟨c5,h⟩|⟨c5,h⟩
 ·refine .a 4 ?_
  refine .nK [4] ?_
  refine .rK [4] ?_
  cases h
  exact⟨[(eStr (ByteArray.mk #[92,116]))],⟨rfl,rfl,trivial⟩,rfl⟩
 refine .a 7 ?_
 rcases oi h with⟨c6,h⟩|⟨c6,h⟩
 ·refine .a 4 ?_
  refine .nK [4] ?_
  refine .rK [4] ?_
  cases h
  exact⟨[(eStr (ByteArray.mk #[92,114]))],⟨rfl,rfl,trivial⟩,rfl⟩
 refine .a 2 ?_
 obtain⟨b7,q8,h⟩:=ob h
 refine .regM [(0,(eU8 p0)),(1,(eStr p1)),(5,(eStr x3)),(15,(eBool b7))] [] ?_ ?_
 ·refine .a 3 ?_
  rcases oi q8 with⟨c9,q8⟩|⟨c9,q8⟩
  ·refine .a 4 ?_
   cases q8
   refine .nilE ⟨rfl,rfl⟩ ?_ ?_
   ·exact⟨rfl,rfl,rfl,rfl,trivial⟩
   exact(.refl _)
  refine .a 4 ?_
  cases q8
  refine .nilE ⟨rfl,rfl⟩ ?_ ?_
  ·exact⟨rfl,rfl,rfl,rfl,trivial⟩
  exact(.refl _)
 rcases oi h with⟨c10,h⟩|⟨c10,h⟩
 ·refine .a 2 ?_
  refine .regQ (by rfl) (by decide+kernel) ?_
  refine .a 2 ?_
  refine .c (x:=eU8 (IntKind.u8.wrap (p0.tdiv (16:Int)))) (.quo rfl rfl rfl (by decide)) ?_
  refine .a 1 ?_
  refine .c (x:=eU8 (IntKind.u8.wrap (p0.tdiv (16:Int)))) (.quo rfl rfl rfl (by decide)) ?_
  refine .a 1 ?_
  obtain⟨g11,h⟩:=of_guard h
  refine .c (x:=eStr (x3.extract (IntKind.u8.wrap (p0.tdiv (16:Int))).toNat (w8 ((IntKind.u8.wrap (p0.tdiv (16:Int)))+(1:Int))).toNat)) (.sliceS rfl rfl rfl rfl g11 Try.underlying9) ?_
  obtain⟨g12,h⟩:=of_guard h
  refine .c (x:=eStr ((ByteArray.mk #[92,120])++(x3.extract (IntKind.u8.wrap (p0.tdiv (16:Int))).toNat (w8 ((IntKind.u8.wrap (p0.tdiv (16:Int)))+(1:Int))).toNat))) (.cat rfl rfl rfl g12) ?_
  refine .a 2 ?_
  refine .c (x:=eU8 (p0.tmod (16:Int))) (.rem rfl rfl rfl (by decide)) ?_
  refine .a 1 ?_
  refine .c (x:=eU8 (p0.tmod (16:Int))) (.rem rfl rfl rfl (by decide)) ?_
  refine .a 1 ?_
  obtain⟨g13,h⟩:=of_guard h
  refine .c (x:=eStr (x3.extract (p0.tmod (16:Int)).toNat (w8 ((p0.tmod (16:Int))+(1:Int))).toNat)) (.sliceS rfl rfl rfl rfl g13 Try.underlying9) ?_
  obtain⟨g14,h⟩:=of_guard h
  refine .c (x:=eStr (((ByteArray.mk #[92,120])++(x3.extract (IntKind.u8.wrap (p0.tdiv (16:Int))).toNat (w8 ((IntKind.u8.wrap (p0.tdiv (16:Int)))+(1:Int))).toNat))++(x3.extract (p0.tmod (16:Int)).toNat (w8 ((p0.tmod (16:Int))+(1:Int))).toNat))) (.cat rfl rfl rfl g14) ?_
  refine .a 1 ?_
  refine .nK [4] ?_
  refine .rK [4] ?_
  cases h
  exact⟨[(eStr (((ByteArray.mk #[92,120])++(x3.extract (IntKind.u8.wrap (p0.tdiv (16:Int))).toNat (w8 ((IntKind.u8.wrap (p0.tdiv (16:Int)))+(1:Int))).toNat))++(x3.extract (p0.tmod (16:Int)).toNat (w8 ((p0.tmod (16:Int))+(1:Int))).toNat)))],⟨rfl,rfl,trivial⟩,rfl⟩
 refine .a 2 ?_
 obtain⟨b15,q16,h⟩:=ob h
 refine .regM [(0,(eU8 p0)),(38,(eBool b15))] [] ?_ ?_
 ·refine .a 3 ?_
  rcases oi q16 with⟨c17,q16⟩|⟨c17,q16⟩
  ·refine .a 5 ?_
   cases q16
   refine .nilE ⟨rfl,rfl⟩ ?_ ?_
   ·exact⟨rfl,rfl,trivial⟩
   exact(.refl _)
  refine .a 2 ?_
  obtain⟨t18,et18,q16⟩:=ob q16
  refine .callG 2 false 41 [(eStr p1),(eU8 p0)] (eBool t18) 44 rfl (by decide) ok130 rfl rfl (bD (decide_eq_false c17)) rfl rfl ⟨rfl,rfl,rfl,rfl,trivial⟩ (F130_spec et18) ?_
  refine .a 2 ?_
  cases q16
  refine .nilE ⟨rfl,rfl⟩ ?_ ?_
  ·exact⟨rfl,rfl,trivial⟩
  exact(.refl _)
 rcases oi h with⟨c19,h⟩|⟨c19,h⟩
 ·refine .a 4 ?_
  refine .lit (Z:=(eU8 (0:Int))) (xs:=(([p0]:List Int).map eU8)) (qs:=[(0,(eU8 p0))]) rfl 47 rfl (by decide) rfl ⟨rfl,rfl,rfl,trivial⟩ Try.underlying102 sz5 zr5 lay5 rfl (by decide) (litOK (z:=1) [(eU8 p0)] rfl ⟨⟨rfl,rfl⟩,trivial⟩) rfl fun n20=>?_
  refine .c (x:=eStr (strOfNums ([p0]:List Int))) (.strO 0 rfl rfl rfl Try.underlying102 Try.underlying9 Try.underlying5) ?_
  obtain⟨g21,h⟩:=of_guard h
  refine .c (x:=eStr ((ByteArray.mk #[92])++(strOfNums ([p0]:List Int)))) (.cat rfl rfl rfl g21) ?_
  refine .a 1 ?_
  refine .nS [4] [] ?_
  refine .rK [4] ?_
  cases h
  exact⟨[(eStr ((ByteArray.mk #[92])++(strOfNums ([p0]:List Int))))],⟨rfl,rfl,trivial⟩,rfl⟩
 refine .a 5 ?_
 refine .lit (Z:=(eU8 (0:Int))) (xs:=(([p0]:List Int).map eU8)) (qs:=[(0,(eU8 p0))]) rfl 51 rfl (by decide) rfl ⟨rfl,rfl,rfl,trivial⟩ Try.underlying102 sz5 zr5 lay5 rfl (by decide) (litOK (z:=1) [(eU8 p0)] rfl ⟨⟨rfl,rfl⟩,trivial⟩) rfl fun n22=>?_
 refine .c (x:=eStr (strOfNums ([p0]:List Int))) (.strO 0 rfl rfl rfl Try.underlying102 Try.underlying9 Try.underlying5) ?_
 refine .a 1 ?_
 refine .nS [4] [] ?_
 refine .rK [4] ?_
 cases h
 exact⟨[(eStr (strOfNums ([p0]:List Int)))],⟨rfl,rfl,trivial⟩,rfl⟩
def F131 (k:Nat) (p0:Int):Option Bool:=
 (F130 k (ByteArray.mk #[48,49,50,51,52,53,54,55,56,57,97,98,99,100,101,102,103,104,105,106,107,108,109,110,111,112,113,114,115,116,117,118,119,120,121,122,65,66,67,68,69,70,71,72,73,74,75,76,77,78,79,80,81,82,83,84,85,86,87,88,89,90]) p0).bind fun t2=>
 some (t2)
theorem F131_spec {k:Nat} {p0:Int} {r:Bool} (h:F131 k p0=some r):Spec Try.prog 131 [(eU8 p0)] (eBool r):=by
 rw[F131.eq_1]at h
 refine Spec.intro (res:=[.tmp 2]) Try.func131 rfl rfl rfl (Nat.le_of_ble_eq_true rfl) ?_
 refine .a 7 ?_
 obtain⟨t2,et2,h⟩:=ob h
 refine .callS [(eStr (ByteArray.mk #[48,49,50,51,52,53,54,55,56,57,97,98,99,100,101,102,103,104,105,106,107,108,109,110,111,112,113,114,115,116,117,118,119,120,121,122,65,66,67,68,69,70,71,72,73,74,75,76,77,78,79,80,81,82,83,84,85,86,87,88,89,90])),(eU8 p0)] (eBool t2) 4 rfl (by decide) ok130 rfl rfl rfl ⟨rfl,rfl,rfl,rfl,trivial⟩ (F130_spec et2) ?_
 refine .a 1 ?_
 refine .nK [2] ?_
 refine .rK [2] ?_
 have hr:=Option.some.inj h
 subst hr
 exact⟨[(eBool t2)],⟨rfl,rfl,trivial⟩,rfl⟩
def F138_c0 (k:Nat) (p0:ByteArray):Option (Int×Int×Bool):=
 Option.bind (α:=Bool) (if(1:Int)<(p0.size:Int)then if 0≤(1:Int)∧(1:Int)<(p0.size:Int)then if(32:Int)≤(byteAt p0 (1:Int))then if 0≤(1:Int)∧(1:Int)<(p0.size:Int)then if(byteAt p0 (1:Int))≤(126:Int)then if 0≤(1:Int)∧(1:Int)<(p0.size:Int)then(F131 k (byteAt p0 (1:Int))).bind fun t14=>
 some (!t14)
 else none
 else some (false)
 else none
 else some (false)
 else none
 else some (false)) fun b6=>
 if b6=true then if 0≤(1:Int)∧(1:Int)<(p0.size:Int)then some ((byteAt p0 (1:Int)),(2:Int),true)
 else none
 else some ((0:Int),(0:Int),false)
def F138_l1 (k:Nat) (p0:ByteArray):Nat→Int→Option (Int×Int×Bool)
 | 0,_=>none
 | j+1,x17=>
   if x17<(256:Int)then(F141 k (w8 x17) (ByteArray.mk #[])).bind fun t21=>
   Option.bind (α:=Bool) (if(t21.size:Int)=(2:Int)then if 0≤(1:Int)∧(1:Int)<(t21.size:Int)then if(byteAt t21 (1:Int))≠(92:Int)then if(1:Int)<(p0.size:Int)then if 0≤(0:Int)∧(0:Int)≤(2:Int)∧(2:Int)≤(p0.size:Int)then some (decide ((p0.extract (0:Int).toNat (2:Int).toNat)=t21))
   else none
   else some (false)
   else some (false)
   else none
   else some (false)) fun b22=>
   if b22=true then some ((w8 x17),(2:Int),true)
   else if 0≤(IntKind.i64.wrap (x17.tdiv (16:Int)))∧(IntKind.i64.wrap (x17.tdiv (16:Int)))≤(w64 ((IntKind.i64.wrap (x17.tdiv (16:Int)))+(1:Int)))∧(w64 ((IntKind.i64.wrap (x17.tdiv (16:Int)))+(1:Int)))≤((ByteArray.mk #[48,49,50,51,52,53,54,55,56,57,97,98,99,100,101,102]).size:Int)then if(ByteArray.mk #[92,120]).size+((ByteArray.mk #[48,49,50,51,52,53,54,55,56,57,97,98,99,100,101,102]).extract (IntKind.i64.wrap (x17.tdiv (16:Int))).toNat (w64 ((IntKind.i64.wrap (x17.tdiv (16:Int)))+(1:Int))).toNat).size≤9223372036854775807 then if 0≤(x17.tmod (16:Int))∧(x17.tmod (16:Int))≤(w64 ((x17.tmod (16:Int))+(1:Int)))∧(w64 ((x17.tmod (16:Int))+(1:Int)))≤((ByteArray.mk #[48,49,50,51,52,53,54,55,56,57,97,98,99,100,101,102]).size:Int)then if((ByteArray.mk #[92,120])++((ByteArray.mk #[48,49,50,51,52,53,54,55,56,57,97,98,99,100,101,102]).extract (IntKind.i64.wrap (x17.tdiv (16:Int))).toNat (w64 ((IntKind.i64.wrap (x17.tdiv (16:Int)))+(1:Int))).toNat)).size+((ByteArray.mk #[48,49,50,51,52,53,54,55,56,57,97,98,99,100,101,102]).extract (x17.tmod (16:Int)).toNat (w64 ((x17.tmod (16:Int))+(1:Int))).toNat).size≤9223372036854775807 then Option.bind (α:=Bool) (if(3:Int)<(p0.size:Int)then if 0≤(0:Int)∧(0:Int)≤(4:Int)∧(4:Int)≤(p0.size:Int)then some (decide ((p0.extract (0:Int).toNat (4:Int).toNat)=(((ByteArray.mk #[92,120])++((ByteArray.mk #[48,49,50,51,52,53,54,55,56,57,97,98,99,100,101,102]).extract (IntKind.i64.wrap (x17.tdiv (16:Int))).toNat (w64 ((IntKind.i64.wrap (x17.tdiv (16:Int)))+(1:Int))).toNat))++((ByteArray.mk #[48,49,50,51,52,53,54,55,56,57,97,98,99,100,101,102]).extract (x17.tmod (16:Int)).toNat (w64 ((x17.tmod (16:Int))+(1:Int))).toNat))))
   else none
   else some (false)) fun b34=>
   if b34=true then some ((w8 x17),(4:Int),true)
   else(F138_l1 k p0 j) (w64 (x17+(1:Int)))
   else none
   else none
   else none
   else none
   else F138_c0 k p0
def F138 (k:Nat) (p0:ByteArray):Option (Int×Int×Bool):=
 if p0=(ByteArray.mk #[])then some ((0:Int),(0:Int),false)
 else if 0≤(0:Int)∧(0:Int)<(p0.size:Int)then if(byteAt p0 (0:Int))≠(92:Int)then if 0≤(0:Int)∧(0:Int)<(p0.size:Int)then some ((byteAt p0 (0:Int)),(1:Int),true)
 else none
 else F138_l1 k p0 k (0:Int)
 else none
theorem F138_spec {k:Nat} {p0:ByteArray} {r:(Int×Int×Bool)} (h:F138 k p0=some r):Spec Try.prog 138 [(eStr p0)] (.tup [(eU8 r.1),(eI64 r.2.1),(eBool r.2.2)]):=by
 rw[F138.eq_1]at h
 refine Spec.intro (res:=[.tmp 2,.tmp 3,.tmp 4]) Try.func138 rfl rfl rfl (Nat.le_of_ble_eq_true rfl) ?_
 refine .a 12 ?_
 rcases oi h with⟨c2,h⟩|⟨c2,h⟩
 ·refine .a 6 ?_
  refine .nK [2,3,4] ?_
  refine .rK [2,3,4] ?_
  have hr:=Option.some.inj h
  subst hr
  exact⟨[(eU8 (0:Int)),(eI64 (0:Int)),(eBool false)],⟨rfl,rfl,rfl,rfl,rfl,rfl,trivial⟩,rfl⟩
 refine .a 6 ?_
 obtain⟨g3,h⟩:=of_guard h
 refine .a 3 ?_
 rcases oi h with⟨c4,h⟩|⟨c4,h⟩
 ·refine .a 4 ?_
  obtain⟨g5,h⟩:=of_guard h
  refine .a 4 ?_
  refine .nK [2,3,4] ?_
  refine .rK [2,3,4] ?_
  have hr:=Option.some.inj h
  subst hr
  exact⟨[(eU8 (byteAt p0 (0:Int))),(eI64 (1:Int)),(eBool true)],⟨rfl,rfl,rfl,rfl,rfl,rfl,trivial⟩,rfl⟩
 refine .a 1 ?_
 refine .sK [0] ?_
 refine .seq_mid (fun ρ H=>ρ=[(0,(eStr p0))]∧H=[]∧F138_c0 k p0=some r) ?_ ?_
 ·refine .a 5 ?_
  refine .wK [0,5] ?_
  refine .loop (fun kq ρ H=>∃ (x17:Int),ρ=[(0,(eStr p0)),(5,(eI64 x17))]∧H=[]∧F138_l1 k p0 kq x17=some r) k ⟨(0:Int),rfl,rfl,h⟩ ?_
  rintro kq19 _ _ ⟨x17,rfl,rfl,h⟩
  cases kq19 with
  | zero=>rw[F138_l1.eq_1]at h;cases h
  | succ kq19=>
  rw[F138_l1.eq_2]at h
  generalize hrec18:F138_l1 k p0 kq19=rec18 at h
  refine .a 6 ?_
  rcases oi h with⟨c20,h⟩|⟨c20,h⟩
  ·refine .a 8 ?_
   obtain⟨t21,et21,h⟩:=ob h
   refine .callS [(eU8 (w8 x17)),(eStr (ByteArray.mk #[]))] (eStr t21) 21 rfl (by decide) ok141 rfl rfl rfl ⟨rfl,rfl,rfl,rfl,trivial⟩ (F141_spec et21) ?_
   refine .a 4 ?_
   obtain⟨b22,q23,h⟩:=ob h
   refine .regM [(0,(eStr p0)),(5,(eI64 x17)),(40,(eBool b22))] [] ?_ ?_
   ·refine .a 4 ?_
    rcases oi q23 with⟨c24,q23⟩|⟨c24,q23⟩
    ·refine .a 1 ?_
     obtain⟨g25,q23⟩:=of_guard q23
     refine .a 4 ?_
     rcases oi q23 with⟨c26,q23⟩|⟨c26,q23⟩
     ·refine .a 5 ?_
      rcases oi q23 with⟨c27,q23⟩|⟨c27,q23⟩
      ·refine .a 1 ?_
       obtain⟨g28,q23⟩:=of_guard q23
       refine .cG (x:=eStr (p0.extract (0:Int).toNat (2:Int).toNat)) rfl rfl (bD (decide_eq_true c27)) (.sliceS rfl rfl rfl rfl g28 Try.underlying9) ?_
       refine .a 3 ?_
       cases q23
       refine .nilE ⟨rfl,rfl⟩ ?_ ?_
       ·exact⟨rfl,rfl,rfl,trivial⟩
       exact(.refl _)
      refine .a 5 ?_
      cases q23
      refine .nilE ⟨rfl,rfl⟩ ?_ ?_
      ·exact⟨rfl,rfl,rfl,trivial⟩
      exact(.refl _)
     refine .a 10 ?_
     cases q23
     refine .nilE ⟨rfl,rfl⟩ ?_ ?_
     ·exact⟨rfl,rfl,rfl,trivial⟩
     exact(.refl _)
    refine .a 15 ?_
    cases q23
    refine .nilE ⟨rfl,rfl⟩ ?_ ?_
    ·exact⟨rfl,rfl,rfl,trivial⟩
    exact(.refl _)
   rcases oi h with⟨c29,h⟩|⟨c29,h⟩
   ·refine .a 8 ?_
    refine .nK [2,3,4] ?_
    refine .rK [2,3,4] ?_
    have hr:=Option.some.inj h
    subst hr
    exact⟨[(eU8 (w8 x17)),(eI64 (2:Int)),(eBool true)],⟨rfl,rfl,rfl,rfl,rfl,rfl,trivial⟩,rfl⟩
   refine .a 3 ?_
   refine .regQ (by rfl) (by decide+kernel) ?_
   refine .a 1 ?_
   refine .c (x:=eI64 (IntKind.i64.wrap (x17.tdiv (16:Int)))) (.quo rfl rfl rfl (by decide)) ?_
   refine .a 1 ?_
   refine .c (x:=eI64 (IntKind.i64.wrap (x17.tdiv (16:Int)))) (.quo rfl rfl rfl (by decide)) ?_
   refine .a 1 ?_
   obtain⟨g30,h⟩:=of_guard h
   refine .c (x:=eStr ((ByteArray.mk #[48,49,50,51,52,53,54,55,56,57,97,98,99,100,101,102]).extract (IntKind.i64.wrap (x17.tdiv (16:Int))).toNat (w64 ((IntKind.i64.wrap (x17.tdiv (16:Int)))+(1:Int))).toNat)) (.sliceS rfl rfl rfl rfl g30 Try.underlying9) ?_
   obtain⟨g31,h⟩:=of_guard h
   refine .c (x:=eStr ((ByteArray.mk #[92,120])++((ByteArray.mk #[48,49,50,51,52,53,54,55,56,57,97,98,99,100,101,102]).extract (IntKind.i64.wrap (x17.tdiv (16:Int))).toNat (w64 ((IntKind.i64.wrap (x17.tdiv (16:Int)))+(1:Int))).toNat))) (.cat rfl rfl rfl g31) ?_
   refine .a 1 ?_
   refine .c (x:=eI64 (x17.tmod (16:Int))) (.rem rfl rfl rfl (by decide)) ?_
   refine .a 1 ?_
   refine .c (x:=eI64 (x17.tmod (16:Int))) (.rem rfl rfl rfl (by decide)) ?_
   refine .a 1 ?_
   obtain⟨g32,h⟩:=of_guard h
   refine .c (x:=eStr ((ByteArray.mk #[48,49,50,51,52,53,54,55,56,57,97,98,99,100,101,102]).extract (x17.tmod (16:Int)).toNat (w64 ((x17.tmod (16:Int))+(1:Int))).toNat)) (.sliceS rfl rfl rfl rfl g32 Try.underlying9) ?_
   obtain⟨g33,h⟩:=of_guard h
   refine .c (x:=eStr (((ByteArray.mk #[92,120])++((ByteArray.mk #[48,49,50,51,52,53,54,55,56,57,97,98,99,100,101,102]).extract (IntKind.i64.wrap (x17.tdiv (16:Int))).toNat (w64 ((IntKind.i64.wrap (x17.tdiv (16:Int)))+(1:Int))).toNat))++((ByteArray.mk #[48,49,50,51,52,53,54,55,56,57,97,98,99,100,101,102]).extract (x17.tmod (16:Int)).toNat (w64 ((x17.tmod (16:Int))+(1:Int))).toNat))) (.cat rfl rfl rfl g33) ?_
   refine .a 3 ?_
   obtain⟨b34,q35,h⟩:=ob h
   refine .regM [(0,(eStr p0)),(5,(eI64 x17)),(65,(eBool b34))] [] ?_ ?_
   ·refine .a 4 ?_
    rcases oi q35 with⟨c36,q35⟩|⟨c36,q35⟩
    ·refine .a 1 ?_
     obtain⟨g37,q35⟩:=of_guard q35
     refine .cG (x:=eStr (p0.extract (0:Int).toNat (4:Int).toNat)) rfl rfl (bD (decide_eq_true c36)) (.sliceS rfl rfl rfl rfl g37 Try.underlying9) ?_
     refine .a 3 ?_
     cases q35
     refine .nilE ⟨rfl,rfl⟩ ?_ ?_
     ·exact⟨rfl,rfl,rfl,trivial⟩
     exact(.refl _)
    refine .sT rfl rfl (bD (decide_eq_false c36)) ?_
    refine .sT rfl rfl (bD (decide_eq_false c36)) ?_
    refine .sT rfl rfl (bD (decide_eq_false c36)) ?_
    refine .sT rfl rfl (bD (decide_eq_false c36)) ?_
    refine .c (.pickF rfl (bD (decide_eq_false c36)) rfl) ?_
    cases q35
    refine .nilE ⟨rfl,rfl⟩ ?_ ?_
    ·exact⟨rfl,rfl,rfl,trivial⟩
    exact(.refl _)
   rcases oi h with⟨c38,h⟩|⟨c38,h⟩
   ·refine .condT' _ rfl c38 ?_
    refine .sr ?_
    refine .mv rfl rfl ?_
    refine .c (x:=eU8 (w8 x17)) (.conv rfl rfl Try.underlying3 Try.underlying5) ?_
    refine .ag rfl rfl ?_
    refine .ag rfl rfl ?_
    refine .ag rfl rfl ?_
    refine .nK [2,3,4] ?_
    refine .rK [2,3,4] ?_
    have hr:=Option.some.inj h
    subst hr
    exact⟨[(eU8 (w8 x17)),(eI64 (4:Int)),(eBool true)],⟨rfl,rfl,rfl,rfl,rfl,rfl,trivial⟩,rfl⟩
   refine .a 6 ?_
   refine .nK [0,5] ?_
   exact⟨kq19,Nat.lt_succ_self _,(w64 (x17+(1:Int))),rfl,rfl,by rw[hrec18];exact h⟩
  refine .a 1 ?_
  refine .eK [0] ?_
  exact⟨rfl,rfl,h⟩
 rintro _ _ ⟨rfl,rfl,h⟩
 rw[F138_c0.eq_1]at h
 refine .a 2 ?_
 obtain⟨b6,q7,h⟩:=ob h
 refine .regM [(0,(eStr p0)),(86,(eBool b6))] [] ?_ ?_
 ·refine .a 4 ?_
  rcases oi q7 with⟨c8,q7⟩|⟨c8,q7⟩
  ·refine .a 1 ?_
   obtain⟨g9,q7⟩:=of_guard q7
   refine .a 4 ?_
   rcases oi q7 with⟨c10,q7⟩|⟨c10,q7⟩
   ·refine .a 1 ?_
    obtain⟨g11,q7⟩:=of_guard q7
    refine .a 4 ?_
    rcases oi q7 with⟨c12,q7⟩|⟨c12,q7⟩
    ·refine .a 1 ?_
     obtain⟨g13,q7⟩:=of_guard q7
     refine .a 1 ?_
     obtain⟨t14,et14,q7⟩:=ob q7
     refine .callG 13 true 81 [(eU8 (byteAt p0 (1:Int)))] (eBool t14) 84 rfl (by decide) ok131 rfl rfl (bD (decide_eq_true c12)) rfl rfl ⟨rfl,rfl,trivial⟩ (F131_spec et14) ?_
     refine .a 2 ?_
     cases q7
     refine .nilE ⟨rfl,rfl⟩ ?_ ?_
     ·exact⟨rfl,rfl,trivial⟩
     exact(.refl _)
    refine .a 5 ?_
    cases q7
    refine .nilE ⟨rfl,rfl⟩ ?_ ?_
    ·exact⟨rfl,rfl,trivial⟩
    exact(.refl _)
   refine .a 10 ?_
   cases q7
   refine .nilE ⟨rfl,rfl⟩ ?_ ?_
   ·exact⟨rfl,rfl,trivial⟩
   exact(.refl _)
  refine .a 15 ?_
  cases q7
  refine .nilE ⟨rfl,rfl⟩ ?_ ?_
  ·exact⟨rfl,rfl,trivial⟩
  exact(.refl _)
 rcases oi h with⟨c15,h⟩|⟨c15,h⟩
 ·refine .a 4 ?_
  obtain⟨g16,h⟩:=of_guard h
  refine .a 4 ?_
  refine .nK [2,3,4] ?_
  refine .rK [2,3,4] ?_
  have hr:=Option.some.inj h
  subst hr
  exact⟨[(eU8 (byteAt p0 (1:Int))),(eI64 (2:Int)),(eBool true)],⟨rfl,rfl,rfl,rfl,rfl,rfl,trivial⟩,rfl⟩
 refine .a 7 ?_
 refine .nK [2,3,4] ?_
 refine .rK [2,3,4] ?_
 have hr:=Option.some.inj h
 subst hr
 exact⟨[(eU8 (0:Int)),(eI64 (0:Int)),(eBool false)],⟨rfl,rfl,rfl,rfl,rfl,rfl,trivial⟩,rfl⟩
def F137_c0 (k:Nat) (p0:ByteArray) (x10:Int) (x14:(Vector Int 4)):Option ((List S131)×Int):=
 Option.bind (α:=Bool) (if(p0.size:Int)≤x10 then some (true)
 else some (decide (x14=(Vector.replicate 4 (0:Int))))) fun b15=>
 if b15=true then some ([],x10)
 else some ([(S131.mk (1:Int) x14)],(w64 (x10+(1:Int))))
def F137_c1 (k:Nat) (p0:ByteArray) (b5:Bool) (x10:Int) (x11:(List Bool)):Option ((List S131)×Int):=
 (F139 k x11).bind fun t12=>
 if b5=true then(F136 k (3:Int) t12 t12).bind fun t21=>
 F137_c0 k p0 x10 t21
 else F137_c0 k p0 x10 t12
def F137_l2 (k:Nat) (rec24:(Int→(List Bool)→Option ((List S131)×Int))) (x39:Int) (x40:Int):Nat→(List Bool)→Int→Option ((List S131)×Int)
 | 0,_,_=>none
 | j+1,x41,x42=>
   if x42≤(w64 x40)then if 0≤x42∧x42<(x41.length:Int)then(F137_l2 k rec24 x39 x40 j) (lset x41 x42 true) (w64 (x42+(1:Int)))
   else none
   else rec24 x39 x41
def F137_c3 (k:Nat) (rec24:(Int→(List Bool)→Option ((List S131)×Int))) (x23:(List Bool)) (t32:(Int×Int×Bool)) (x39:Int) (x40:Int):Option ((List S131)×Int):=
 F137_l2 k rec24 x39 x40 k x23 (w64 t32.1)
def F137_l4 (k:Nat) (p0:ByteArray) (b5:Bool):Nat→Int→(List Bool)→Option ((List S131)×Int)
 | 0,_,_=>none
 | j+1,x22,x23=>
   Option.bind (α:=Bool) (if x22<(p0.size:Int)then if 0≤x22∧x22<(p0.size:Int)then some (decide ((byteAt p0 x22)≠(93:Int)))
   else none
   else some (false)) fun b26=>
   if b26=true then if 0≤x22∧x22≤(p0.size:Int)∧(p0.size:Int)≤(p0.size:Int)then(F138 k (p0.extract x22.toNat (p0.size:Int).toNat)).bind fun t32=>
   Option.bind (α:=Bool) (if(!t32.2.2)=true then some (true)
   else if 0≤x22∧x22<(p0.size:Int)then(F109 k (ByteArray.mk #[94,45,47,34]) (byteAt p0 x22)).bind fun t37=>
   some (t37)
   else none) fun b33=>
   if b33=true then some ([],x22)
   else Option.bind (α:=Bool) (if(w64 (x22+t32.2.1))<(p0.size:Int)then if 0≤(w64 (x22+t32.2.1))∧(w64 (x22+t32.2.1))<(p0.size:Int)then some (decide ((byteAt p0 (w64 (x22+t32.2.1)))=(45:Int)))
   else none
   else some (false)) fun b47=>
   if b47=true then Option.bind (α:=Bool) (if(p0.size:Int)≤(w64 ((w64 (x22+t32.2.1))+(1:Int)))then some (true)
   else if 0≤(w64 ((w64 (x22+t32.2.1))+(1:Int)))∧(w64 ((w64 (x22+t32.2.1))+(1:Int)))<(p0.size:Int)then(F109 k (ByteArray.mk #[93,94,45,47,34]) (byteAt p0 (w64 ((w64 (x22+t32.2.1))+(1:Int))))).bind fun t56=>
   some (t56)
   else none) fun b52=>
   if b52=true then some ([],(w64 ((w64 (x22+t32.2.1))+(1:Int))))
   else if 0≤(w64 ((w64 (x22+t32.2.1))+(1:Int)))∧(w64 ((w64 (x22+t32.2.1))+(1:Int)))≤(p0.size:Int)∧(p0.size:Int)≤(p0.size:Int)then(F138 k (p0.extract (w64 ((w64 (x22+t32.2.1))+(1:Int))).toNat (p0.size:Int).toNat)).bind fun t59=>
   Option.bind (α:=Bool) (if(!t59.2.2)=true then some (true)
   else some (decide (t59.1<t32.1))) fun b60=>
   if b60=true then some ([],(w64 ((w64 (x22+t32.2.1))+(1:Int))))
   else F137_c3 k (F137_l4 k p0 b5 j) x23 t32 (w64 ((w64 ((w64 (x22+t32.2.1))+(1:Int)))+t59.2.1)) t59.1
   else none
   else F137_c3 k (F137_l4 k p0 b5 j) x23 t32 (w64 (x22+t32.2.1)) t32.1
   else none
   else F137_c1 k p0 b5 x22 x23
def F137_c5 (k:Nat) (p0:ByteArray) (b5:Bool) (x9:Int):Option ((List S131)×Int):=
 F137_l4 k p0 b5 k x9 (List.replicate (256:Int).toNat false)
def F137 (k:Nat) (p0:ByteArray) (p1:Int):Option ((List S131)×Int):=
 if 0≤(256:Int)∧(256:Int)*(1:Int)≤140737488355328∧(256:Int)≤9223372036854775807 then Option.bind (α:=Bool) (if p1<(p0.size:Int)then if 0≤p1∧p1<(p0.size:Int)then some (decide ((byteAt p0 p1)=(94:Int)))
 else none
 else some (false)) fun b5=>
 if b5=true then F137_c5 k p0 b5 (w64 (p1+(1:Int)))
 else F137_c5 k p0 b5 p1
 else none
theorem F137_spec {k:Nat} {p0:ByteArray} {p1:Int} {r:((List S131)×Int)} (h:F137 k p0 p1=some r):Spec Try.prog 137 [(eStr p0),(eI64 p1)] (.tup [(nz 5 (r.1.map e131)),(eI64 r.2)]):=by
 rw[F137.eq_1]at h
 refine Spec.intro (res:=[.tmp 4,.tmp 5]) Try.func137 rfl rfl rfl (Nat.le_of_ble_eq_true rfl) ?_
 refine .a 7 ?_
 obtain⟨g4,h⟩:=of_guard h
 refine .makeL (f:=eBool) false rfl 14 rfl (by decide) rfl rfl rfl Try.underlying98 sz4 by4 zr4 lay4 rfl g4 fun n3=>?_
 refine .a 3 ?_
 obtain⟨b5,q6,h⟩:=ob h
 refine .regM [(0,(eStr p0)),(1,(eI64 p1)),(6,(Z28 n3 (List.replicate (256:Int).toNat false).length)),(7,(eBool b5))] [(Z9 n3 (List.replicate (256:Int).toNat false))] ?_ ?_
 ·refine .a 5 ?_
  rcases oi q6 with⟨c7,q6⟩|⟨c7,q6⟩
  ·refine .a 2 ?_
   obtain⟨g8,q6⟩:=of_guard q6
   refine .a 4 ?_
   cases q6
   refine .nilE ⟨rfl,rfl⟩ ?_ ?_
   ·exact⟨rfl,rfl,rfl,rfl,trivial⟩
   exact(.refl _)
  refine .a 6 ?_
  cases q6
  refine .nilE ⟨rfl,rfl⟩ ?_ ?_
  ·exact⟨rfl,rfl,rfl,rfl,trivial⟩
  exact(.refl _)
 refine .seq_mid (fun ρ H=>∃ (x9:Int),ρ=[(0,(eStr p0)),(1,(eI64 x9)),(6,(Z28 n3 (List.replicate (256:Int).toNat false).length)),(7,(eBool b5))]∧H=[(Z9 n3 (List.replicate (256:Int).toNat false))]∧F137_c5 k p0 b5 x9=some r) ?_ ?_
 ·refine .a 4 ?_
  rcases oi h with⟨c64,h⟩|⟨c64,h⟩
  ·refine .a 5 ?_
   refine .nK [0,1,6,7] ?_
   exact⟨(w64 (p1+(1:Int))),rfl,rfl,h⟩
  refine .a 1 ?_
  refine .sK [0,1,6,7] ?_
  exact⟨p1,rfl,rfl,h⟩
 rintro _ _ ⟨x9,rfl,rfl,h⟩
 rw[F137_c5.eq_1]at h
 refine .seq_mid (fun ρ H=>∃ (x10:Int) (x11:(List Bool)),ρ=[(0,(eStr p0)),(1,(eI64 x10)),(6,(.own n3 0 x11.length)),(7,(eBool b5))]∧H=[(Z9 n3 x11)]∧F137_c1 k p0 b5 x10 x11=some r) ?_ ?_
 ·refine .a 1 ?_
  refine .wK [0,1,6,7] ?_
  refine .loop (fun kq ρ H=>∃ (x22:Int) (x23:(List Bool)),ρ=[(0,(eStr p0)),(1,(eI64 x22)),(6,(.own n3 0 x23.length)),(7,(eBool b5))]∧H=[(Z9 n3 x23)]∧F137_l4 k p0 b5 kq x22 x23=some r) k ⟨x9,(List.replicate (256:Int).toNat false),rfl,rfl,h⟩ ?_
  rintro kq25 _ _ ⟨x22,x23,rfl,rfl,h⟩
  cases kq25 with
  | zero=>rw[F137_l4.eq_1]at h;cases h
  | succ kq25=>
  rw[F137_l4.eq_2]at h
  generalize hrec24:F137_l4 k p0 b5 kq25=rec24 at h
  refine .a 2 ?_
  obtain⟨b26,q27,h⟩:=ob h
  refine .regM [(0,(eStr p0)),(1,(eI64 x22)),(6,(.own n3 0 x23.length)),(7,(eBool b5)),(37,(eBool b26))] [(Z9 n3 x23)] ?_ ?_
  ·refine .a 5 ?_
   rcases oi q27 with⟨c28,q27⟩|⟨c28,q27⟩
   ·refine .a 2 ?_
    obtain⟨g29,q27⟩:=of_guard q27
    refine .a 3 ?_
    cases q27
    refine .nilE ⟨rfl,rfl⟩ ?_ ?_
    ·exact⟨rfl,rfl,rfl,rfl,rfl,trivial⟩
    exact(.refl _)
   refine .a 5 ?_
   cases q27
   refine .nilE ⟨rfl,rfl⟩ ?_ ?_
   ·exact⟨rfl,rfl,rfl,rfl,rfl,trivial⟩
   exact(.refl _)
  rcases oi h with⟨c30,h⟩|⟨c30,h⟩
  ·refine .a 7 ?_
   obtain⟨g31,h⟩:=of_guard h
   refine .c (x:=eStr (p0.extract x22.toNat (p0.size:Int).toNat)) (.sliceS rfl rfl rfl rfl g31 Try.underlying9) ?_
   obtain⟨t32,et32,h⟩:=ob h
   refine .callS [(eStr (p0.extract x22.toNat (p0.size:Int).toNat))] (.tup [(eU8 t32.1),(eI64 t32.2.1),(eBool t32.2.2)]) 42 rfl (by decide) ok138 rfl rfl rfl ⟨rfl,rfl,trivial⟩ (F138_spec et32) ?_
   refine .a 10 ?_
   obtain⟨b33,q34,h⟩:=ob h
   refine .regM [(0,(eStr p0)),(1,(eI64 x22)),(6,(.own n3 0 x23.length)),(7,(eBool b5)),(8,(eU8 t32.1)),(9,(eI64 t32.2.1)),(53,(eBool b33))] [(Z9 n3 x23)] ?_ ?_
   ·refine .a 3 ?_
    rcases oi q34 with⟨c35,q34⟩|⟨c35,q34⟩
    ·refine .a 5 ?_
     cases q34
     refine .nilE ⟨rfl,rfl⟩ ?_ ?_
     ·exact⟨rfl,rfl,rfl,rfl,rfl,rfl,rfl,trivial⟩
     exact(.refl _)
    refine .a 2 ?_
    obtain⟨g36,q34⟩:=of_guard q34
    refine .a 1 ?_
    obtain⟨t37,et37,q34⟩:=ob q34
    refine .callG 2 false 48 [(eStr (ByteArray.mk #[94,45,47,34])),(eU8 (byteAt p0 x22))] (eBool t37) 52 rfl (by decide) ok109 rfl rfl (bD (eq_false_of_ne_true c35)) rfl rfl ⟨rfl,rfl,rfl,rfl,trivial⟩ (F109_spec et37) ?_
    refine .a 1 ?_
    cases q34
    refine .nilE ⟨rfl,rfl⟩ ?_ ?_
    ·exact⟨rfl,rfl,rfl,rfl,rfl,rfl,rfl,trivial⟩
    exact(.refl _)
   rcases oi h with⟨c38,h⟩|⟨c38,h⟩
   ·refine .a 6 ?_
    refine .nS [4,5] [] ?_
    refine .coe 4 (y':=(Z25 ([]:List S131))) rfl (fun _ _ h=>h) ?_
    refine .rK [4,5] ?_
    cases h
    exact⟨[(Z25 ([]:List S131)),(eI64 x22)],⟨rfl,nz_notTup,rfl,rfl,trivial⟩,rfl⟩
   refine .a 13 ?_
   refine .nK [0,1,6,7,8,11] ?_
   refine .seq_mid (fun ρ H=>∃ (x39:Int) (x40:Int),ρ=[(0,(eStr p0)),(1,(eI64 x39)),(6,(.own n3 0 x23.length)),(7,(eBool b5)),(8,(eU8 t32.1)),(11,(eU8 x40))]∧H=[(Z9 n3 x23)]∧F137_c3 k rec24 x23 t32 x39 x40=some r) ?_ ?_
   ·refine .seq ?_
    obtain⟨b47,q48,h⟩:=ob h
    refine .regM [(0,(eStr p0)),(1,(eI64 (w64 (x22+t32.2.1)))),(6,(.own n3 0 x23.length)),(7,(eBool b5)),(8,(eU8 t32.1)),(11,(eU8 t32.1)),(68,(eBool b47))] [(Z9 n3 x23)] ?_ ?_
    ·refine .a 5 ?_
     rcases oi q48 with⟨c49,q48⟩|⟨c49,q48⟩
     ·refine .a 2 ?_
      obtain⟨g50,q48⟩:=of_guard q48
      refine .a 3 ?_
      cases q48
      refine .nilE ⟨rfl,rfl⟩ ?_ ?_
      ·exact⟨rfl,rfl,rfl,rfl,rfl,rfl,rfl,trivial⟩
      exact(.refl _)
     refine .a 5 ?_
     cases q48
     refine .nilE ⟨rfl,rfl⟩ ?_ ?_
     ·exact⟨rfl,rfl,rfl,rfl,rfl,rfl,rfl,trivial⟩
     exact(.refl _)
    rcases oi h with⟨c51,h⟩|⟨c51,h⟩
    ·refine .a 9 ?_
     obtain⟨b52,q53,h⟩:=ob h
     refine .regM [(0,(eStr p0)),(1,(eI64 (w64 ((w64 (x22+t32.2.1))+(1:Int))))),(6,(.own n3 0 x23.length)),(7,(eBool b5)),(8,(eU8 t32.1)),(80,(eBool b52))] [(Z9 n3 x23)] ?_ ?_
     ·refine .a 5 ?_
      rcases oi q53 with⟨c54,q53⟩|⟨c54,q53⟩
      ·refine .a 5 ?_
       cases q53
       refine .nilE ⟨rfl,rfl⟩ ?_ ?_
       ·exact⟨rfl,rfl,rfl,rfl,rfl,rfl,trivial⟩
       exact(.refl _)
      refine .a 2 ?_
      obtain⟨g55,q53⟩:=of_guard q53
      refine .a 1 ?_
      obtain⟨t56,et56,q53⟩:=ob q53
      refine .callG 4 false 75 [(eStr (ByteArray.mk #[93,94,45,47,34])),(eU8 (byteAt p0 (w64 ((w64 (x22+t32.2.1))+(1:Int)))))] (eBool t56) 79 rfl (by decide) ok109 rfl rfl (bD (decide_eq_false c54)) rfl rfl ⟨rfl,rfl,rfl,rfl,trivial⟩ (F109_spec et56) ?_
      refine .a 1 ?_
      cases q53
      refine .nilE ⟨rfl,rfl⟩ ?_ ?_
      ·exact⟨rfl,rfl,rfl,rfl,rfl,rfl,trivial⟩
      exact(.refl _)
     rcases oi h with⟨c57,h⟩|⟨c57,h⟩
     ·refine .a 6 ?_
      refine .nS [4,5] [] ?_
      refine .coe 4 (y':=(Z25 ([]:List S131))) rfl (fun _ _ h=>h) ?_
      refine .rK [4,5] ?_
      cases h
      exact⟨[(Z25 ([]:List S131)),(eI64 (w64 ((w64 (x22+t32.2.1))+(1:Int))))],⟨rfl,nz_notTup,rfl,rfl,trivial⟩,rfl⟩
     refine .a 6 ?_
     obtain⟨g58,h⟩:=of_guard h
     refine .c (x:=eStr (p0.extract (w64 ((w64 (x22+t32.2.1))+(1:Int))).toNat (p0.size:Int).toNat)) (.sliceS rfl rfl rfl rfl g58 Try.underlying9) ?_
     obtain⟨t59,et59,h⟩:=ob h
     refine .callS [(eStr (p0.extract (w64 ((w64 (x22+t32.2.1))+(1:Int))).toNat (p0.size:Int).toNat))] (.tup [(eU8 t59.1),(eI64 t59.2.1),(eBool t59.2.2)]) 86 rfl (by decide) ok138 rfl rfl rfl ⟨rfl,rfl,trivial⟩ (F138_spec et59) ?_
     refine .a 10 ?_
     obtain⟨b60,q61,h⟩:=ob h
     refine .regM [(0,(eStr p0)),(1,(eI64 (w64 ((w64 (x22+t32.2.1))+(1:Int))))),(6,(.own n3 0 x23.length)),(7,(eBool b5)),(8,(eU8 t32.1)),(9,(eI64 t59.2.1)),(11,(eU8 t59.1)),(96,(eBool b60))] [(Z9 n3 x23)] ?_ ?_
     ·refine .a 3 ?_
      rcases oi q61 with⟨c62,q61⟩|⟨c62,q61⟩
      ·refine .a 4 ?_
       cases q61
       refine .nilE ⟨rfl,rfl⟩ ?_ ?_
       ·exact⟨rfl,rfl,rfl,rfl,rfl,rfl,rfl,rfl,trivial⟩
       exact(.refl _)
      refine .a 4 ?_
      cases q61
      refine .nilE ⟨rfl,rfl⟩ ?_ ?_
      ·exact⟨rfl,rfl,rfl,rfl,rfl,rfl,rfl,rfl,trivial⟩
      exact(.refl _)
     rcases oi h with⟨c63,h⟩|⟨c63,h⟩
     ·refine .a 6 ?_
      refine .nS [4,5] [] ?_
      refine .coe 4 (y':=(Z25 ([]:List S131))) rfl (fun _ _ h=>h) ?_
      refine .rK [4,5] ?_
      cases h
      exact⟨[(Z25 ([]:List S131)),(eI64 (w64 ((w64 (x22+t32.2.1))+(1:Int))))],⟨rfl,nz_notTup,rfl,rfl,trivial⟩,rfl⟩
     refine .a 7 ?_
     refine .nK [0,1,6,7,8,11] ?_
     exact⟨(w64 ((w64 ((w64 (x22+t32.2.1))+(1:Int)))+t59.2.1)),t59.1,rfl,rfl,h⟩
    refine .a 1 ?_
    refine .sK [0,1,6,7,8,11] ?_
    exact⟨(w64 (x22+t32.2.1)),t32.1,rfl,rfl,h⟩
   rintro _ _ ⟨x39,x40,rfl,rfl,h⟩
   rw[F137_c3.eq_1]at h
   refine .a 7 ?_
   refine .wK [0,1,6,7,11,12] ?_
   refine .loop (fun kq ρ H=>∃ (x41:(List Bool)) (x42:Int),ρ=[(0,(eStr p0)),(1,(eI64 x39)),(6,(.own n3 0 x41.length)),(7,(eBool b5)),(11,(eU8 x40)),(12,(eI64 x42))]∧H=[(Z9 n3 x41)]∧F137_l2 k rec24 x39 x40 kq x41 x42=some r) k ⟨x23,(w64 t32.1),rfl,rfl,h⟩ ?_
   rintro kq44 _ _ ⟨x41,x42,rfl,rfl,h⟩
   cases kq44 with
   | zero=>rw[F137_l2.eq_1]at h;cases h
   | succ kq44=>
   rw[F137_l2.eq_2]at h
   generalize hrec43:F137_l2 k rec24 x39 x40 kq44=rec43 at h
   refine .a 8 ?_
   rcases oi h with⟨c45,h⟩|⟨c45,h⟩
   ·refine .a 7 ?_
    obtain⟨g46,h⟩:=of_guard h
    refine .a 1 ?_
    refine .store 0 rfl rfl rfl rfl rfl rfl (.cast (.lidx x42 true g46.1 g46.2 .here) (by omega)) rfl rfl sz4 rfl ?_
    refine .coe 6 (y':=(Z28 n3 (lset x41 x42 true).length)) rfl (fun _ _ h=>lset_own h) ?_
    refine .coe 109 (y':=(Z28 n3 (lset x41 x42 true).length)) rfl (fun _ _ h=>lset_own h) ?_
    refine .a 5 ?_
    refine .nK [0,1,6,7,11,12] ?_
    exact⟨kq44,Nat.lt_succ_self _,(lset x41 x42 true),(w64 (x42+(1:Int))),rfl,rfl,by rw[hrec43];exact h⟩
   refine .a 1 ?_
   refine .eK [0,1,6,7] ?_
   exact⟨kq25,Nat.lt_succ_self _,x39,x41,rfl,rfl,by rw[hrec24];exact h⟩
  refine .a 1 ?_
  refine .eK [0,1,6,7] ?_
  exact⟨x22,x23,rfl,rfl,h⟩
 rintro _ _ ⟨x10,x11,rfl,rfl,h⟩
 rw[F137_c1.eq_1]at h
 refine .a 3 ?_
 obtain⟨t12,et12,h⟩:=ob h
 refine .freezeS 0 [(6,(.fz 1 (x11.map eBool))),(112,(.fz 1 (x11.map eBool)))] rfl ⟨fz_all rfl,fz_all rfl,trivial⟩ ?_
 refine .callS [(.fz 1 (x11.map eBool))] (.ar 1 (t12.toList.map eU64)) 113 rfl (by decide) ok139 rfl rfl rfl ⟨rfl,rfl,trivial⟩ (F139_spec et12) ?_
 refine .alloc rfl 13 rfl (by decide) rfl zr62 lay62 fun n13=>?_
 refine .store 0 rfl rfl rfl rfl rfl rfl (.cast .here rfl) rfl (by simp[AV.size]) (by rw[sz62];simp[AV.size]) rfl ?_
 refine .nK [0,1,7,13] ?_
 refine .seq_mid (fun ρ H=>∃ (x14:(Vector Int 4)),ρ=[(0,(eStr p0)),(1,(eI64 x10)),(13,(.ptr n13 0))]∧H=[(Z13 n13 (x14.toList.map eU64))]∧F137_c0 k p0 x10 x14=some r) ?_ ?_
 ·refine .a 4 ?_
  rcases oi h with⟨c20,h⟩|⟨c20,h⟩
  ·refine .a 4 ?_
   obtain⟨t21,et21,h⟩:=ob h
   refine .callS [(eI64 (3:Int)),(.ar 1 (t12.toList.map eU64)),(.ar 1 (t12.toList.map eU64))] (.ar 1 (t21.toList.map eU64)) 117 rfl (by decide) ok136 rfl rfl rfl ⟨rfl,rfl,rfl,rfl,rfl,rfl,trivial⟩ (F136_spec et21) ?_
   refine .store 0 rfl rfl rfl rfl rfl rfl (.cast .here rfl) rfl (by simp[AV.size]) (by rw[sz62];simp[AV.size]) rfl ?_
   refine .nK [0,1,13] ?_
   exact⟨t21,rfl,rfl,h⟩
  refine .a 1 ?_
  refine .sK [0,1,13] ?_
  exact⟨t12,rfl,rfl,h⟩
 rintro _ _ ⟨x14,rfl,rfl,h⟩
 rw[F137_c0.eq_1]at h
 refine .a 2 ?_
 obtain⟨b15,q16,h⟩:=ob h
 refine .regM [(1,(eI64 x10)),(13,(.ptr n13 0)),(126,(eBool b15))] [(Z13 n13 (x14.toList.map eU64))] ?_ ?_
 ·refine .a 5 ?_
  rcases oi q16 with⟨c17,q16⟩|⟨c17,q16⟩
  ·refine .a 4 ?_
   cases q16
   refine .nilE ⟨rfl,rfl⟩ ?_ ?_
   ·exact⟨rfl,rfl,rfl,trivial⟩
   exact(.refl _)
  refine .a 1 ?_
  refine .cG (x:=.ar 1 ((Vector.replicate 4 (0:Int)).toList.map eU64)) rfl rfl (bD (decide_eq_false c17)) (.buildAr (qs:=[]) rfl trivial Try.underlying62 sz60 zr62 lay62 .nil rfl) ?_
  refine .cG (x:=eBool (decide (x14=(Vector.replicate 4 (0:Int))))) rfl rfl (bD (decide_eq_false c17)) (.eqA rfl rfl rfl eg62 (eqa62 x14 (Vector.replicate 4 (0:Int))) (by decide)) ?_
  refine .a 1 ?_
  cases q16
  refine .nilE ⟨rfl,rfl⟩ ?_ ?_
  ·exact⟨rfl,rfl,rfl,trivial⟩
  exact(.refl _)
 rcases oi h with⟨c18,h⟩|⟨c18,h⟩
 ·refine .a 6 ?_
  refine .nS [4,5] [] ?_
  refine .coe 4 (y':=(Z25 ([]:List S131))) rfl (fun _ _ h=>h) ?_
  refine .rK [4,5] ?_
  cases h
  exact⟨[(Z25 ([]:List S131)),(eI64 x10)],⟨rfl,nz_notTup,rfl,rfl,trivial⟩,rfl⟩
 refine .a 5 ?_
 refine .c (x:=(Z21 (1:Int) (x14.toList.map eU64))) (.build (qs:=[(0,(eI64 (1:Int))),(1,(.ar 1 (x14.toList.map eU64)))]) rfl ⟨rfl,rfl,rfl,rfl,rfl,rfl,trivial⟩ Try.underlying131 rfl zr131 lay131 (.cons rfl rfl rfl rfl (.cast (.fld0 .here) rfl) (.cons rfl rfl (vec_size _ _) (vec_size _ _) (.cast (.fldS (.fld0 .here)) rfl) .nil)) rfl) ?_
 refine .lit (Z:=(Z21 (0:Int) ((Vector.replicate 4 (0:Int)).toList.map eU64))) (xs:=(([(S131.mk (1:Int) x14)]:List S131).map e131)) (qs:=[(0,(e131 (S131.mk (1:Int) x14)))]) rfl 130 rfl (by decide) rfl ⟨rfl,rfl,rfl,trivial⟩ Try.underlying68 sz131 zr131 lay131 rfl (by decide) (litOK (z:=5) [(e131 (S131.mk (1:Int) x14))] rfl ⟨⟨rfl,rfl⟩,trivial⟩) rfl fun n19=>?_
 refine .a 4 ?_
 refine .nS [4,5] [0] ?_
 refine .freezeS 0 [(4,(Z11 ([(S131.mk (1:Int) x14)]:List S131)))] rfl ⟨fz_all rfl,trivial⟩ ?_
 refine .coe 4 (y':=(Z25 ([(S131.mk (1:Int) x14)]:List S131))) rfl (fz_nz (by simp)) ?_
 refine .rK [4,5] ?_
 cases h
 exact⟨[(Z25 ([(S131.mk (1:Int) x14)]:List S131)),(eI64 (w64 (x10+(1:Int))))],⟨rfl,nz_notTup,rfl,rfl,trivial⟩,rfl⟩
def F64a_c0 (k:Nat) (x5:Int) (x6:(List S131)):Option ((List S131)×Int):=
 some (x6,x5)
def F64a_l1 (k:Nat) (self83:(ByteArray→Int→Int→Option ((List S131)×Int))) (p0:ByteArray) (p2:Int):Nat→Int→(List S131)→Option ((List S131)×Int)
 | 0,_,_=>none
 | j+1,x7,x8=>
   Option.bind (α:=Bool) (if x8≠[]then if x7<(p0.size:Int)then if 0≤x7∧x7<(p0.size:Int)then some (decide ((byteAt p0 x7)=(124:Int)))
   else none
   else some (false)
   else some (false)) fun b11=>
   if b11=true then(self83 p0 (w64 (x7+(1:Int))) p2).bind fun t17=>
   if t17.1=[]then some ([],t17.2)
   else if(([]:List S131)++x8).length*40≤140737488355328 then if((([]:List S131)++x8)++t17.1).length*40≤140737488355328 then if(((([]:List S131)++x8)++t17.1)++([(S131.mk (3:Int) (Vector.replicate 4 (0:Int)))]:List S131)).length*40≤140737488355328 then(F64a_l1 k self83 p0 p2 j) t17.2 (((([]:List S131)++x8)++t17.1)++([(S131.mk (3:Int) (Vector.replicate 4 (0:Int)))]:List S131))
   else none
   else none
   else none
   else F64a_c0 k x7 x8
def F64b_c0 (k:Nat) (x5:Int) (x6:(List S131)):Option ((List S131)×Int):=
 some (x6,x5)
def F64b_l1 (k:Nat) (self108:(ByteArray→Int→Int→Option ((List S131)×Int))) (p0:ByteArray) (p2:Int):Nat→Int→(List S131)→Option ((List S131)×Int)
 | 0,_,_=>none
 | j+1,x7,x8=>
   Option.bind (α:=Bool) (if x8≠[]then if x7<(p0.size:Int)then if 0≤x7∧x7<(p0.size:Int)then(F109 k (ByteArray.mk #[124,41]) (byteAt p0 x7)).bind fun t16=>
   some (!t16)
   else none
   else some (false)
   else some (false)) fun b11=>
   if b11=true then(self108 p0 x7 p2).bind fun t18=>
   if t18.1=[]then some ([],t18.2)
   else if(([]:List S131)++x8).length*40≤140737488355328 then if((([]:List S131)++x8)++t18.1).length*40≤140737488355328 then if(((([]:List S131)++x8)++t18.1)++([(S131.mk (2:Int) (Vector.replicate 4 (0:Int)))]:List S131)).length*40≤140737488355328 then(F64b_l1 k self108 p0 p2 j) t18.2 (((([]:List S131)++x8)++t18.1)++([(S131.mk (2:Int) (Vector.replicate 4 (0:Int)))]:List S131))
   else none
   else none
   else none
   else F64b_c0 k x7 x8
def F64c_c0 (k:Nat) (x5:Int) (x6:(List S131)):Option ((List S131)×Int):=
 some (x6,x5)
def F64c_c1 (k:Nat) (rec9:(Int→(List S131)→Option ((List S131)×Int))) (x7:Int) (x8:(List S131)) (x19:Int):Option ((List S131)×Int):=
 if(([]:List S131)++x8).length*40≤140737488355328 then if((([]:List S131)++x8)++([(S131.mk x19 (Vector.replicate 4 (0:Int)))]:List S131)).length*40≤140737488355328 then rec9 (w64 (x7+(1:Int))) ((([]:List S131)++x8)++([(S131.mk x19 (Vector.replicate 4 (0:Int)))]:List S131))
 else none
 else none
def F64c_c2 (k:Nat) (rec9:(Int→(List S131)→Option ((List S131)×Int))) (p0:ByteArray) (x7:Int) (x8:(List S131)) (x18:Int):Option ((List S131)×Int):=
 if 0≤x7∧x7<(p0.size:Int)then if(byteAt p0 x7)=(63:Int)then F64c_c1 k rec9 x7 x8 (6:Int)
 else F64c_c1 k rec9 x7 x8 x18
 else none
def F64c_l3 (k:Nat) (p0:ByteArray):Nat→Int→(List S131)→Option ((List S131)×Int)
 | 0,_,_=>none
 | j+1,x7,x8=>
   Option.bind (α:=Bool) (if x8≠[]then if x7<(p0.size:Int)then if 0≤x7∧x7<(p0.size:Int)then(F109 k (ByteArray.mk #[42,43,63]) (byteAt p0 x7)).bind fun t16=>
   some (t16)
   else none
   else some (false)
   else some (false)) fun b11=>
   if b11=true then if 0≤x7∧x7<(p0.size:Int)then if(byteAt p0 x7)=(43:Int)then F64c_c2 k (F64c_l3 k p0 j) p0 x7 x8 (5:Int)
   else F64c_c2 k (F64c_l3 k p0 j) p0 x7 x8 (4:Int)
   else none
   else F64c_c0 k x7 x8
mutual
def F64a_r (k:Nat):Nat→ByteArray→Int→Int→Option ((List S131)×Int)
 | 0,_,_,_=>none
 | j+1,p0,p1,p2=>
   ((F64b_r k j) p0 p1 p2).bind fun t4=>
   F64a_l1 k (F64b_r k j) p0 p2 k t4.2 t4.1
def F64b_r (k:Nat):Nat→ByteArray→Int→Int→Option ((List S131)×Int)
 | 0,_,_,_=>none
 | j+1,p0,p1,p2=>
   ((F64c_r k j) p0 p1 p2).bind fun t4=>
   F64b_l1 k (F64c_r k j) p0 p2 k t4.2 t4.1
def F64c_r (k:Nat):Nat→ByteArray→Int→Int→Option ((List S131)×Int)
 | 0,_,_,_=>none
 | j+1,p0,p1,p2=>
   ((F64d_r k j) p0 p1 p2).bind fun t4=>
   F64c_l3 k p0 k t4.2 t4.1
def F64d_r (k:Nat):Nat→ByteArray→Int→Int→Option ((List S131)×Int)
 | 0,_,_,_=>none
 | j+1,p0,p1,p2=>
   Option.bind (α:=Bool) (if(p0.size:Int)≤p1 then some (true)
   else if 0≤p1∧p1<(p0.size:Int)then(F109 k (ByteArray.mk #[124,41,42,43,63,93,47,34]) (byteAt p0 p1)).bind fun t8=>
   some (t8)
   else none) fun b4=>
   if b4=true then some ([],p1)
   else if 0≤p1∧p1<(p0.size:Int)then if(byteAt p0 p1)=(46:Int)then(F136 k (3:Int) (Vector.replicate 4 (0:Int)) (Vector.replicate 4 (0:Int))).bind fun t12=>
   some ([(S131.mk (1:Int) t12)],(w64 (p1+(1:Int))))
   else if 0≤p1∧p1<(p0.size:Int)then if(byteAt p0 p1)=(126:Int)then some ([(S131.mk (0:Int) (Vector.replicate 4 (0:Int)))],(w64 (p1+(1:Int))))
   else if 0≤p1∧p1<(p0.size:Int)then if(byteAt p0 p1)=(91:Int)then(F137 k p0 (w64 (p1+(1:Int)))).bind fun t19=>
   some (t19.1,t19.2)
   else if 0≤p1∧p1<(p0.size:Int)then if(byteAt p0 p1)=(40:Int)then if(99:Int)≤p2 then some ([],p1)
   else((F64a_r k j) p0 (w64 (p1+(1:Int))) (w64 (p2+(1:Int)))).bind fun t23=>
   Option.bind (α:=Bool) (if t23.1=[]then some (true)
   else if(p0.size:Int)≤t23.2 then some (true)
   else if 0≤t23.2∧t23.2<(p0.size:Int)then some (decide ((byteAt p0 t23.2)≠(41:Int)))
   else none) fun b24=>
   if b24=true then some ([],t23.2)
   else some (t23.1,(w64 (t23.2+(1:Int))))
   else if 0≤p1∧p1≤(p0.size:Int)∧(p0.size:Int)≤(p0.size:Int)then(F138 k (p0.extract p1.toNat (p0.size:Int).toNat)).bind fun t31=>
   if(!t31.2.2)=true then some ([],p1)
   else if 0≤(256:Int)∧(256:Int)*(1:Int)≤140737488355328∧(256:Int)≤9223372036854775807 then if 0≤t31.1∧t31.1<((List.replicate (256:Int).toNat false).length:Int)then(F139 k (lset (List.replicate (256:Int).toNat false) t31.1 true)).bind fun t36=>
   some ([(S131.mk (1:Int) t36)],(w64 (p1+t31.2.1)))
   else none
   else none
   else none
   else none
   else none
   else none
   else none
end
def F64a (k:Nat) (p0:ByteArray) (p1:Int) (p2:Int):Option ((List S131)×Int):=F64a_r k k p0 p1 p2
theorem F64a_all (k:Nat):∀ j:Nat,(∀ (p0:ByteArray) (p1:Int) (p2:Int) (r:((List S131)×Int)),F64a_r k j p0 p1 p2=some r→Spec Try.prog 64 [(eStr p0),(eI64 p1),(eI64 p2)] (.tup [(nz 5 (r.1.map e131)),(eI64 r.2)]))∧(∀ (p0:ByteArray) (p1:Int) (p2:Int) (r:((List S131)×Int)),F64b_r k j p0 p1 p2=some r→Spec Try.prog 83 [(eStr p0),(eI64 p1),(eI64 p2)] (.tup [(nz 5 (r.1.map e131)),(eI64 r.2)]))∧(∀ (p0:ByteArray) (p1:Int) (p2:Int) (r:((List S131)×Int)),F64c_r k j p0 p1 p2=some r→Spec Try.prog 108 [(eStr p0),(eI64 p1),(eI64 p2)] (.tup [(nz 5 (r.1.map e131)),(eI64 r.2)]))∧(∀ (p0:ByteArray) (p1:Int) (p2:Int) (r:((List S131)×Int)),F64d_r k j p0 p1 p2=some r→Spec Try.prog 128 [(eStr p0),(eI64 p1),(eI64 p2)] (.tup [(nz 5 (r.1.map e131)),(eI64 r.2)])):=by
 intro j
 induction j with
 | zero=>exact⟨(by intro p0 p1 p2 r h;rw[F64a_r.eq_1]at h;cases h),(by intro p0 p1 p2 r h;rw[F64b_r.eq_1]at h;cases h),(by intro p0 p1 p2 r h;rw[F64c_r.eq_1]at h;cases h),(by intro p0 p1 p2 r h;rw[F64d_r.eq_1]at h;cases h)⟩
 | succ j hself=>
 obtain⟨hself64,hself83,hself108,hself128⟩:=hself
 refine⟨?_,?_,?_,?_⟩
 ·intro p0 p1 p2 r h
  rw[F64a_r.eq_2]at h
  generalize hsself64:F64a_r k j=self64 at h hself64
  generalize hsself83:F64b_r k j=self83 at h hself83
  generalize hsself108:F64c_r k j=self108 at h hself108
  generalize hsself128:F64d_r k j=self128 at h hself128
  refine Spec.intro (res:=[.tmp 6,.tmp 7]) Try.func64 rfl rfl rfl (Nat.le_of_ble_eq_true rfl) ?_
  refine .a 10 ?_
  obtain⟨t4,et4,h⟩:=ob h
  refine .callS [(eStr p0),(eI64 p1),(eI64 p2)] (.tup [(nz 5 (t4.1.map e131)),(eI64 t4.2)]) 14 rfl (by decide) ok83 rfl rfl rfl ⟨rfl,rfl,rfl,rfl,rfl,rfl,trivial⟩ (hself83 _ _ _ _ et4) ?_
  refine .a 5 ?_
  refine .nK [0,1,2,8] ?_
  refine .seq_mid (fun ρ H=>∃ (x5:Int) (x6:(List S131)),ρ=[(1,(eI64 x5)),(8,(nz 5 (x6.map e131)))]∧H=[]∧F64a_c0 k x5 x6=some r) ?_ ?_
  ·refine .a 1 ?_
   refine .wK [0,1,2,8] ?_
   refine .loop (fun kq ρ H=>∃ (x7:Int) (x8:(List S131)),ρ=[(0,(eStr p0)),(1,(eI64 x7)),(2,(eI64 p2)),(8,(nz 5 (x8.map e131)))]∧H=[]∧F64a_l1 k self83 p0 p2 kq x7 x8=some r) k ⟨t4.2,t4.1,rfl,rfl,h⟩ ?_
   rintro kq10 _ _ ⟨x7,x8,rfl,rfl,h⟩
   cases kq10 with
   | zero=>rw[F64a_l1.eq_1]at h;cases h
   | succ kq10=>
   rw[F64a_l1.eq_2]at h
   generalize hrec9:F64a_l1 k self83 p0 p2 kq10=rec9 at h
   refine .a 2 ?_
   obtain⟨b11,q12,h⟩:=ob h
   refine .regM [(0,(eStr p0)),(1,(eI64 x7)),(2,(eI64 p2)),(8,(nz 5 (x8.map e131))),(30,(eBool b11))] [] ?_ ?_
   ·refine .a 1 ?_
    refine .c (x:=eBool (decide (x8≠[]))) (.nzN rfl rfl Try.underlying68) ?_
    refine .a 1 ?_
    rcases oi q12 with⟨c13,q12⟩|⟨c13,q12⟩
    ·refine .a 6 ?_
     rcases oi q12 with⟨c14,q12⟩|⟨c14,q12⟩
     ·refine .a 2 ?_
      obtain⟨g15,q12⟩:=of_guard q12
      refine .a 3 ?_
      cases q12
      refine .nilE ⟨rfl,rfl⟩ ?_ ?_
      ·exact⟨rfl,rfl,rfl,rfl,rfl,trivial⟩
      exact(.refl _)
     refine .a 5 ?_
     cases q12
     refine .nilE ⟨rfl,rfl⟩ ?_ ?_
     ·exact⟨rfl,rfl,rfl,rfl,rfl,trivial⟩
     exact(.refl _)
    refine .a 11 ?_
    cases q12
    refine .nilE ⟨rfl,rfl⟩ ?_ ?_
    ·exact⟨rfl,rfl,rfl,rfl,rfl,trivial⟩
    exact(.refl _)
   rcases oi h with⟨c16,h⟩|⟨c16,h⟩
   ·refine .a 13 ?_
    obtain⟨t17,et17,h⟩:=ob h
    refine .callS [(eStr p0),(eI64 (w64 (x7+(1:Int)))),(eI64 p2)] (.tup [(nz 5 (t17.1.map e131)),(eI64 t17.2)]) 36 rfl (by decide) ok83 rfl rfl rfl ⟨rfl,rfl,rfl,rfl,rfl,rfl,trivial⟩ (hself83 _ _ _ _ et17) ?_
    refine .a 10 ?_
    refine .c (x:=eBool (decide (t17.1=[]))) (.nzE rfl rfl Try.underlying68) ?_
    refine .a 1 ?_
    rcases oi h with⟨c18,h⟩|⟨c18,h⟩
    ·refine .a 6 ?_
     refine .nK [6,7] ?_
     refine .coe 6 (y':=(Z25 ([]:List S131))) rfl (fun _ _ h=>h) ?_
     refine .rK [6,7] ?_
     cases h
     exact⟨[(Z25 ([]:List S131)),(eI64 t17.2)],⟨rfl,nz_notTup,rfl,rfl,trivial⟩,rfl⟩
    refine .a 3 ?_
    refine .lit (Z:=(Z21 (0:Int) ((Vector.replicate 4 (0:Int)).toList.map eU64))) (xs:=(([]:List S131).map e131)) (qs:=[]) rfl 42 rfl (by decide) rfl trivial Try.underlying68 sz131 zr131 lay131 rfl (by decide) (litOK (z:=5) [] rfl trivial) rfl fun n19=>?_
    refine .a 1 ?_
    obtain⟨g21,h⟩:=of_guard h
    refine .coe 43 (y':=(.fz 5 (x8.map e131))) rfl nz_fz ?_
    refine .appendL (l:=([]:List S131)) (m:=x8) 0 44 rfl (by decide) rfl rfl rfl rfl rfl Src.fz Try.underlying68 Try.underlying68 sz131 by131 zr131 rfl g21 (by decide) fun n20=>?_
    refine .a 1 ?_
    obtain⟨g23,h⟩:=of_guard h
    refine .coe 45 (y':=(Z11 t17.1)) rfl nz_fz ?_
    refine .appendL (l:=(([]:List S131)++x8)) (m:=t17.1) 0 46 rfl (by decide) rfl rfl rfl rfl rfl Src.fz Try.underlying68 Try.underlying68 sz131 by131 zr131 rfl g23 (by decide) fun n22=>?_
    refine .c (x:=(Z21 (3:Int) ((Vector.replicate 4 (0:Int)).toList.map eU64))) (.build (qs:=[(0,(eI64 (3:Int)))]) rfl ⟨rfl,rfl,rfl,trivial⟩ Try.underlying131 rfl zr131 lay131 (.cons rfl rfl rfl rfl (.cast (.fld0 .here) rfl) .nil) rfl) ?_
    refine .lit (Z:=(Z21 (0:Int) ((Vector.replicate 4 (0:Int)).toList.map eU64))) (xs:=(([(S131.mk (3:Int) (Vector.replicate 4 (0:Int)))]:List S131).map e131)) (qs:=[(0,(e131 (S131.mk (3:Int) (Vector.replicate 4 (0:Int)))))]) rfl 48 rfl (by decide) rfl ⟨rfl,rfl,rfl,trivial⟩ Try.underlying68 sz131 zr131 lay131 rfl (by decide) (litOK (z:=5) [(e131 (S131.mk (3:Int) (Vector.replicate 4 (0:Int))))] rfl ⟨⟨rfl,rfl⟩,trivial⟩) rfl fun n24=>?_
    obtain⟨g26,h⟩:=of_guard h
    refine .appendL (l:=((([]:List S131)++x8)++t17.1)) (m:=([(S131.mk (3:Int) (Vector.replicate 4 (0:Int)))]:List S131)) 1 49 rfl (by decide) rfl rfl rfl rfl rfl (Src.ownL (f:=e131) (l:=([(S131.mk (3:Int) (Vector.replicate 4 (0:Int)))]:List S131)) 0 rfl) Try.underlying68 Try.underlying68 sz131 by131 zr131 rfl g26 (by decide) fun n25=>?_
    refine .a 1 ?_
    refine .freezeS 1 [(8,(Z11 (((([]:List S131)++x8)++t17.1)++([(S131.mk (3:Int) (Vector.replicate 4 (0:Int)))]:List S131)))),(49,(Z11 (((([]:List S131)++x8)++t17.1)++([(S131.mk (3:Int) (Vector.replicate 4 (0:Int)))]:List S131))))] rfl ⟨fz_all rfl,fz_all rfl,trivial⟩ ?_
    refine .coe 8 (y':=(Z25 (((([]:List S131)++x8)++t17.1)++([(S131.mk (3:Int) (Vector.replicate 4 (0:Int)))]:List S131)))) rfl (fz_nz (by simp)) ?_
    refine .nS [0,1,2,8] [] ?_
    exact⟨kq10,Nat.lt_succ_self _,t17.2,(((([]:List S131)++x8)++t17.1)++([(S131.mk (3:Int) (Vector.replicate 4 (0:Int)))]:List S131)),rfl,rfl,by rw[hrec9];exact h⟩
   refine .a 1 ?_
   refine .eK [1,8] ?_
   exact⟨x7,x8,rfl,rfl,h⟩
  rintro _ _ ⟨x5,x6,rfl,rfl,h⟩
  rw[F64a_c0.eq_1]at h
  refine .a 6 ?_
  refine .nK [6,7] ?_
  refine .rK [6,7] ?_
  have hr:=Option.some.inj h
  subst hr
  exact⟨[(nz 5 (x6.map e131)),(eI64 x5)],⟨rfl,nz_notTup,rfl,rfl,trivial⟩,rfl⟩
 ·intro p0 p1 p2 r h
  rw[F64b_r.eq_2]at h
  generalize hsself64:F64a_r k j=self64 at h hself64
  generalize hsself83:F64b_r k j=self83 at h hself83
  generalize hsself108:F64c_r k j=self108 at h hself108
  generalize hsself128:F64d_r k j=self128 at h hself128
  refine Spec.intro (res:=[.tmp 6,.tmp 7]) Try.func83 rfl rfl rfl (Nat.le_of_ble_eq_true rfl) ?_
  refine .a 10 ?_
  obtain⟨t4,et4,h⟩:=ob h
  refine .callS [(eStr p0),(eI64 p1),(eI64 p2)] (.tup [(nz 5 (t4.1.map e131)),(eI64 t4.2)]) 14 rfl (by decide) ok108 rfl rfl rfl ⟨rfl,rfl,rfl,rfl,rfl,rfl,trivial⟩ (hself108 _ _ _ _ et4) ?_
  refine .a 5 ?_
  refine .nK [0,1,2,8] ?_
  refine .seq_mid (fun ρ H=>∃ (x5:Int) (x6:(List S131)),ρ=[(1,(eI64 x5)),(8,(nz 5 (x6.map e131)))]∧H=[]∧F64b_c0 k x5 x6=some r) ?_ ?_
  ·refine .a 1 ?_
   refine .wK [0,1,2,8] ?_
   refine .loop (fun kq ρ H=>∃ (x7:Int) (x8:(List S131)),ρ=[(0,(eStr p0)),(1,(eI64 x7)),(2,(eI64 p2)),(8,(nz 5 (x8.map e131)))]∧H=[]∧F64b_l1 k self108 p0 p2 kq x7 x8=some r) k ⟨t4.2,t4.1,rfl,rfl,h⟩ ?_
   rintro kq10 _ _ ⟨x7,x8,rfl,rfl,h⟩
   cases kq10 with
   | zero=>rw[F64b_l1.eq_1]at h;cases h
   | succ kq10=>
   rw[F64b_l1.eq_2]at h
   generalize hrec9:F64b_l1 k self108 p0 p2 kq10=rec9 at h
   refine .a 2 ?_
   obtain⟨b11,q12,h⟩:=ob h
   refine .regM [(0,(eStr p0)),(1,(eI64 x7)),(2,(eI64 p2)),(8,(nz 5 (x8.map e131))),(31,(eBool b11))] [] ?_ ?_
   ·refine .a 1 ?_
    refine .c (x:=eBool (decide (x8≠[]))) (.nzN rfl rfl Try.underlying68) ?_
    refine .a 1 ?_
    rcases oi q12 with⟨c13,q12⟩|⟨c13,q12⟩
    ·refine .a 6 ?_
     rcases oi q12 with⟨c14,q12⟩|⟨c14,q12⟩
     ·refine .a 2 ?_
      obtain⟨g15,q12⟩:=of_guard q12
      refine .a 1 ?_
      obtain⟨t16,et16,q12⟩:=ob q12
      refine .callG 8 true 25 [(eStr (ByteArray.mk #[124,41])),(eU8 (byteAt p0 x7))] (eBool t16) 29 rfl (by decide) ok109 rfl rfl (bD (decide_eq_true c14)) rfl rfl ⟨rfl,rfl,rfl,rfl,trivial⟩ (F109_spec et16) ?_
      refine .a 2 ?_
      cases q12
      refine .nilE ⟨rfl,rfl⟩ ?_ ?_
      ·exact⟨rfl,rfl,rfl,rfl,rfl,trivial⟩
      exact(.refl _)
     refine .a 6 ?_
     cases q12
     refine .nilE ⟨rfl,rfl⟩ ?_ ?_
     ·exact⟨rfl,rfl,rfl,rfl,rfl,trivial⟩
     exact(.refl _)
    refine .a 12 ?_
    cases q12
    refine .nilE ⟨rfl,rfl⟩ ?_ ?_
    ·exact⟨rfl,rfl,rfl,rfl,rfl,trivial⟩
    exact(.refl _)
   rcases oi h with⟨c17,h⟩|⟨c17,h⟩
   ·refine .a 12 ?_
    obtain⟨t18,et18,h⟩:=ob h
    refine .callS [(eStr p0),(eI64 x7),(eI64 p2)] (.tup [(nz 5 (t18.1.map e131)),(eI64 t18.2)]) 36 rfl (by decide) ok108 rfl rfl rfl ⟨rfl,rfl,rfl,rfl,rfl,rfl,trivial⟩ (hself108 _ _ _ _ et18) ?_
    refine .a 10 ?_
    refine .c (x:=eBool (decide (t18.1=[]))) (.nzE rfl rfl Try.underlying68) ?_
    refine .a 1 ?_
    rcases oi h with⟨c19,h⟩|⟨c19,h⟩
    ·refine .a 6 ?_
     refine .nK [6,7] ?_
     refine .coe 6 (y':=(Z25 ([]:List S131))) rfl (fun _ _ h=>h) ?_
     refine .rK [6,7] ?_
     cases h
     exact⟨[(Z25 ([]:List S131)),(eI64 t18.2)],⟨rfl,nz_notTup,rfl,rfl,trivial⟩,rfl⟩
    refine .a 3 ?_
    refine .lit (Z:=(Z21 (0:Int) ((Vector.replicate 4 (0:Int)).toList.map eU64))) (xs:=(([]:List S131).map e131)) (qs:=[]) rfl 42 rfl (by decide) rfl trivial Try.underlying68 sz131 zr131 lay131 rfl (by decide) (litOK (z:=5) [] rfl trivial) rfl fun n20=>?_
    refine .a 1 ?_
    obtain⟨g22,h⟩:=of_guard h
    refine .coe 43 (y':=(.fz 5 (x8.map e131))) rfl nz_fz ?_
    refine .appendL (l:=([]:List S131)) (m:=x8) 0 44 rfl (by decide) rfl rfl rfl rfl rfl Src.fz Try.underlying68 Try.underlying68 sz131 by131 zr131 rfl g22 (by decide) fun n21=>?_
    refine .a 1 ?_
    obtain⟨g24,h⟩:=of_guard h
    refine .coe 45 (y':=(Z11 t18.1)) rfl nz_fz ?_
    refine .appendL (l:=(([]:List S131)++x8)) (m:=t18.1) 0 46 rfl (by decide) rfl rfl rfl rfl rfl Src.fz Try.underlying68 Try.underlying68 sz131 by131 zr131 rfl g24 (by decide) fun n23=>?_
    refine .c (x:=(Z21 (2:Int) ((Vector.replicate 4 (0:Int)).toList.map eU64))) (.build (qs:=[(0,(eI64 (2:Int)))]) rfl ⟨rfl,rfl,rfl,trivial⟩ Try.underlying131 rfl zr131 lay131 (.cons rfl rfl rfl rfl (.cast (.fld0 .here) rfl) .nil) rfl) ?_
    refine .lit (Z:=(Z21 (0:Int) ((Vector.replicate 4 (0:Int)).toList.map eU64))) (xs:=(([(S131.mk (2:Int) (Vector.replicate 4 (0:Int)))]:List S131).map e131)) (qs:=[(0,(e131 (S131.mk (2:Int) (Vector.replicate 4 (0:Int)))))]) rfl 48 rfl (by decide) rfl ⟨rfl,rfl,rfl,trivial⟩ Try.underlying68 sz131 zr131 lay131 rfl (by decide) (litOK (z:=5) [(e131 (S131.mk (2:Int) (Vector.replicate 4 (0:Int))))] rfl ⟨⟨rfl,rfl⟩,trivial⟩) rfl fun n25=>?_
    obtain⟨g27,h⟩:=of_guard h
    refine .appendL (l:=((([]:List S131)++x8)++t18.1)) (m:=([(S131.mk (2:Int) (Vector.replicate 4 (0:Int)))]:List S131)) 1 49 rfl (by decide) rfl rfl rfl rfl rfl (Src.ownL (f:=e131) (l:=([(S131.mk (2:Int) (Vector.replicate 4 (0:Int)))]:List S131)) 0 rfl) Try.underlying68 Try.underlying68 sz131 by131 zr131 rfl g27 (by decide) fun n26=>?_
    refine .a 1 ?_
    refine .freezeS 1 [(8,(Z11 (((([]:List S131)++x8)++t18.1)++([(S131.mk (2:Int) (Vector.replicate 4 (0:Int)))]:List S131)))),(49,(Z11 (((([]:List S131)++x8)++t18.1)++([(S131.mk (2:Int) (Vector.replicate 4 (0:Int)))]:List S131))))] rfl ⟨fz_all rfl,fz_all rfl,trivial⟩ ?_
    refine .coe 8 (y':=(Z25 (((([]:List S131)++x8)++t18.1)++([(S131.mk (2:Int) (Vector.replicate 4 (0:Int)))]:List S131)))) rfl (fz_nz (by simp)) ?_
    refine .nS [0,1,2,8] [] ?_
    exact⟨kq10,Nat.lt_succ_self _,t18.2,(((([]:List S131)++x8)++t18.1)++([(S131.mk (2:Int) (Vector.replicate 4 (0:Int)))]:List S131)),rfl,rfl,by rw[hrec9];exact h⟩
   refine .a 1 ?_
   refine .eK [1,8] ?_
   exact⟨x7,x8,rfl,rfl,h⟩
  rintro _ _ ⟨x5,x6,rfl,rfl,h⟩
  rw[F64b_c0.eq_1]at h
  refine .a 6 ?_
  refine .nK [6,7] ?_
  refine .rK [6,7] ?_
  have hr:=Option.some.inj h
  subst hr
  exact⟨[(nz 5 (x6.map e131)),(eI64 x5)],⟨rfl,nz_notTup,rfl,rfl,trivial⟩,rfl⟩
 ·intro p0 p1 p2 r h
  rw[F64c_r.eq_2]at h
  generalize hsself64:F64a_r k j=self64 at h hself64
  generalize hsself83:F64b_r k j=self83 at h hself83
  generalize hsself108:F64c_r k j=self108 at h hself108
  generalize hsself128:F64d_r k j=self128 at h hself128
  refine Spec.intro (res:=[.tmp 6,.tmp 7]) Try.func108 rfl rfl rfl (Nat.le_of_ble_eq_true rfl) ?_
  refine .a 10 ?_
  obtain⟨t4,et4,h⟩:=ob h
  refine .callS [(eStr p0),(eI64 p1),(eI64 p2)] (.tup [(nz 5 (t4.1.map e131)),(eI64 t4.2)]) 14 rfl (by decide) ok128 rfl rfl rfl ⟨rfl,rfl,rfl,rfl,rfl,rfl,trivial⟩ (hself128 _ _ _ _ et4) ?_
  refine .a 5 ?_
  refine .nK [0,1,8] ?_
  refine .seq_mid (fun ρ H=>∃ (x5:Int) (x6:(List S131)),ρ=[(1,(eI64 x5)),(8,(nz 5 (x6.map e131)))]∧H=[]∧F64c_c0 k x5 x6=some r) ?_ ?_
  ·refine .a 1 ?_
   refine .wK [0,1,8] ?_
   refine .loop (fun kq ρ H=>∃ (x7:Int) (x8:(List S131)),ρ=[(0,(eStr p0)),(1,(eI64 x7)),(8,(nz 5 (x8.map e131)))]∧H=[]∧F64c_l3 k p0 kq x7 x8=some r) k ⟨t4.2,t4.1,rfl,rfl,h⟩ ?_
   rintro kq10 _ _ ⟨x7,x8,rfl,rfl,h⟩
   cases kq10 with
   | zero=>rw[F64c_l3.eq_1]at h;cases h
   | succ kq10=>
   rw[F64c_l3.eq_2]at h
   generalize hrec9:F64c_l3 k p0 kq10=rec9 at h
   refine .a 2 ?_
   obtain⟨b11,q12,h⟩:=ob h
   refine .regM [(0,(eStr p0)),(1,(eI64 x7)),(8,(nz 5 (x8.map e131))),(30,(eBool b11))] [] ?_ ?_
   ·refine .a 1 ?_
    refine .c (x:=eBool (decide (x8≠[]))) (.nzN rfl rfl Try.underlying68) ?_
    refine .a 1 ?_
    rcases oi q12 with⟨c13,q12⟩|⟨c13,q12⟩
    ·refine .a 6 ?_
     rcases oi q12 with⟨c14,q12⟩|⟨c14,q12⟩
     ·refine .a 2 ?_
      obtain⟨g15,q12⟩:=of_guard q12
      refine .a 1 ?_
      obtain⟨t16,et16,q12⟩:=ob q12
      refine .callG 8 true 25 [(eStr (ByteArray.mk #[42,43,63])),(eU8 (byteAt p0 x7))] (eBool t16) 29 rfl (by decide) ok109 rfl rfl (bD (decide_eq_true c14)) rfl rfl ⟨rfl,rfl,rfl,rfl,trivial⟩ (F109_spec et16) ?_
      refine .a 1 ?_
      cases q12
      refine .nilE ⟨rfl,rfl⟩ ?_ ?_
      ·exact⟨rfl,rfl,rfl,rfl,trivial⟩
      exact(.refl _)
     refine .a 5 ?_
     cases q12
     refine .nilE ⟨rfl,rfl⟩ ?_ ?_
     ·exact⟨rfl,rfl,rfl,rfl,trivial⟩
     exact(.refl _)
    refine .a 11 ?_
    cases q12
    refine .nilE ⟨rfl,rfl⟩ ?_ ?_
    ·exact⟨rfl,rfl,rfl,rfl,trivial⟩
    exact(.refl _)
   rcases oi h with⟨c17,h⟩|⟨c17,h⟩
   ·refine .a 6 ?_
    refine .nK [0,1,8,9] ?_
    refine .seq_mid (fun ρ H=>∃ (x18:Int),ρ=[(0,(eStr p0)),(1,(eI64 x7)),(8,(nz 5 (x8.map e131))),(9,(eI64 x18))]∧H=[]∧F64c_c2 k rec9 p0 x7 x8 x18=some r) ?_ ?_
    ·refine .a 4 ?_
     obtain⟨g28,h⟩:=of_guard h
     refine .a 3 ?_
     rcases oi h with⟨c29,h⟩|⟨c29,h⟩
     ·refine .a 3 ?_
      refine .nK [0,1,8,9] ?_
      exact⟨(5:Int),rfl,rfl,h⟩
     refine .a 1 ?_
     refine .sK [0,1,8,9] ?_
     exact⟨(4:Int),rfl,rfl,h⟩
    rintro _ _ ⟨x18,rfl,rfl,h⟩
    rw[F64c_c2.eq_1]at h
    refine .seq_mid (fun ρ H=>∃ (x19:Int),ρ=[(0,(eStr p0)),(1,(eI64 x7)),(8,(nz 5 (x8.map e131))),(9,(eI64 x19))]∧H=[]∧F64c_c1 k rec9 x7 x8 x19=some r) ?_ ?_
    ·refine .a 4 ?_
     obtain⟨g26,h⟩:=of_guard h
     refine .a 3 ?_
     rcases oi h with⟨c27,h⟩|⟨c27,h⟩
     ·refine .a 3 ?_
      refine .nK [0,1,8,9] ?_
      exact⟨(6:Int),rfl,rfl,h⟩
     refine .a 1 ?_
     refine .sK [0,1,8,9] ?_
     exact⟨x18,rfl,rfl,h⟩
    rintro _ _ ⟨x19,rfl,rfl,h⟩
    rw[F64c_c1.eq_1]at h
    refine .sr ?_
    refine .lit (Z:=(Z21 (0:Int) ((Vector.replicate 4 (0:Int)).toList.map eU64))) (xs:=(([]:List S131).map e131)) (qs:=[]) rfl 39 rfl (by decide) rfl trivial Try.underlying68 sz131 zr131 lay131 rfl (by decide) (litOK (z:=5) [] rfl trivial) rfl fun n20=>?_
    refine .a 1 ?_
    obtain⟨g22,h⟩:=of_guard h
    refine .coe 40 (y':=(.fz 5 (x8.map e131))) rfl nz_fz ?_
    refine .appendL (l:=([]:List S131)) (m:=x8) 0 41 rfl (by decide) rfl rfl rfl rfl rfl Src.fz Try.underlying68 Try.underlying68 sz131 by131 zr131 rfl g22 (by decide) fun n21=>?_
    refine .a 1 ?_
    refine .c (x:=(Z21 x19 ((Vector.replicate 4 (0:Int)).toList.map eU64))) (.build (qs:=[(0,(eI64 x19))]) rfl ⟨rfl,rfl,rfl,trivial⟩ Try.underlying131 rfl zr131 lay131 (.cons rfl rfl rfl rfl (.cast (.fld0 .here) rfl) .nil) rfl) ?_
    refine .lit (Z:=(Z21 (0:Int) ((Vector.replicate 4 (0:Int)).toList.map eU64))) (xs:=(([(S131.mk x19 (Vector.replicate 4 (0:Int)))]:List S131).map e131)) (qs:=[(0,(e131 (S131.mk x19 (Vector.replicate 4 (0:Int)))))]) rfl 44 rfl (by decide) rfl ⟨rfl,rfl,rfl,trivial⟩ Try.underlying68 sz131 zr131 lay131 rfl (by decide) (litOK (z:=5) [(e131 (S131.mk x19 (Vector.replicate 4 (0:Int))))] rfl ⟨⟨rfl,rfl⟩,trivial⟩) rfl fun n23=>?_
    obtain⟨g25,h⟩:=of_guard h
    refine .appendL (l:=(([]:List S131)++x8)) (m:=([(S131.mk x19 (Vector.replicate 4 (0:Int)))]:List S131)) 1 45 rfl (by decide) rfl rfl rfl rfl rfl (Src.ownL (f:=e131) (l:=([(S131.mk x19 (Vector.replicate 4 (0:Int)))]:List S131)) 0 rfl) Try.underlying68 Try.underlying68 sz131 by131 zr131 rfl g25 (by decide) fun n24=>?_
    refine .a 1 ?_
    refine .nS [0,1,8] [1] ?_
    refine .a 4 ?_
    refine .freezeS 0 [(8,(Z11 ((([]:List S131)++x8)++([(S131.mk x19 (Vector.replicate 4 (0:Int)))]:List S131))))] rfl ⟨fz_all rfl,trivial⟩ ?_
    refine .coe 8 (y':=(Z25 ((([]:List S131)++x8)++([(S131.mk x19 (Vector.replicate 4 (0:Int)))]:List S131)))) rfl (fz_nz (by simp)) ?_
    refine .nK [0,1,8] ?_
    exact⟨kq10,Nat.lt_succ_self _,(w64 (x7+(1:Int))),((([]:List S131)++x8)++([(S131.mk x19 (Vector.replicate 4 (0:Int)))]:List S131)),rfl,rfl,by rw[hrec9];exact h⟩
   refine .a 1 ?_
   refine .eK [1,8] ?_
   exact⟨x7,x8,rfl,rfl,h⟩
  rintro _ _ ⟨x5,x6,rfl,rfl,h⟩
  rw[F64c_c0.eq_1]at h
  refine .a 6 ?_
  refine .nK [6,7] ?_
  refine .rK [6,7] ?_
  have hr:=Option.some.inj h
  subst hr
  exact⟨[(nz 5 (x6.map e131)),(eI64 x5)],⟨rfl,nz_notTup,rfl,rfl,trivial⟩,rfl⟩
 intro p0 p1 p2 r h
 rw[F64d_r.eq_2]at h
 generalize hsself64:F64a_r k j=self64 at h hself64
 generalize hsself83:F64b_r k j=self83 at h hself83
 generalize hsself108:F64c_r k j=self108 at h hself108
 generalize hsself128:F64d_r k j=self128 at h hself128
 refine Spec.intro (res:=[.tmp 6,.tmp 7]) Try.func128 rfl rfl rfl (Nat.le_of_ble_eq_true rfl) ?_
 refine .a 8 ?_
 obtain⟨b4,q5,h⟩:=ob h
 refine .regM [(0,(eStr p0)),(1,(eI64 p1)),(2,(eI64 p2)),(14,(eBool b4))] [] ?_ ?_
 ·refine .a 5 ?_
  rcases oi q5 with⟨c6,q5⟩|⟨c6,q5⟩
  ·refine .a 6 ?_
   cases q5
   refine .nilE ⟨rfl,rfl⟩ ?_ ?_
   ·exact⟨rfl,rfl,rfl,rfl,trivial⟩
   exact(.refl _)
  refine .a 2 ?_
  obtain⟨g7,q5⟩:=of_guard q5
  refine .a 1 ?_
  obtain⟨t8,et8,q5⟩:=ob q5
  refine .callG 4 false 19 [(eStr (ByteArray.mk #[124,41,42,43,63,93,47,34])),(eU8 (byteAt p0 p1))] (eBool t8) 23 rfl (by decide) ok109 rfl rfl (bD (decide_eq_false c6)) rfl rfl ⟨rfl,rfl,rfl,rfl,trivial⟩ (F109_spec et8) ?_
  refine .a 2 ?_
  cases q5
  refine .nilE ⟨rfl,rfl⟩ ?_ ?_
  ·exact⟨rfl,rfl,rfl,rfl,trivial⟩
  exact(.refl _)
 rcases oi h with⟨c9,h⟩|⟨c9,h⟩
 ·refine .a 6 ?_
  refine .nK [6,7] ?_
  refine .coe 6 (y':=(Z25 ([]:List S131))) rfl (fun _ _ h=>h) ?_
  refine .rK [6,7] ?_
  cases h
  exact⟨[(Z25 ([]:List S131)),(eI64 p1)],⟨rfl,nz_notTup,rfl,rfl,trivial⟩,rfl⟩
 refine .a 5 ?_
 obtain⟨g10,h⟩:=of_guard h
 refine .a 4 ?_
 rcases oi h with⟨c11,h⟩|⟨c11,h⟩
 ·refine .a 3 ?_
  refine .c (x:=.ar 1 ((Vector.replicate 4 (0:Int)).toList.map eU64)) (.buildAr (qs:=[]) rfl trivial Try.underlying62 sz60 zr62 lay62 .nil rfl) ?_
  refine .c (x:=.ar 1 ((Vector.replicate 4 (0:Int)).toList.map eU64)) (.buildAr (qs:=[]) rfl trivial Try.underlying62 sz60 zr62 lay62 .nil rfl) ?_
  obtain⟨t12,et12,h⟩:=ob h
  refine .callS [(eI64 (3:Int)),(.ar 1 ((Vector.replicate 4 (0:Int)).toList.map eU64)),(.ar 1 ((Vector.replicate 4 (0:Int)).toList.map eU64))] (.ar 1 (t12.toList.map eU64)) 33 rfl (by decide) ok136 rfl rfl rfl ⟨rfl,rfl,rfl,rfl,rfl,rfl,trivial⟩ (F136_spec et12) ?_
  refine .c (x:=(Z21 (1:Int) (t12.toList.map eU64))) (.build (qs:=[(0,(eI64 (1:Int))),(1,(.ar 1 (t12.toList.map eU64)))]) rfl ⟨rfl,rfl,rfl,rfl,rfl,rfl,trivial⟩ Try.underlying131 rfl zr131 lay131 (.cons rfl rfl rfl rfl (.cast (.fld0 .here) rfl) (.cons rfl rfl (vec_size _ _) (vec_size _ _) (.cast (.fldS (.fld0 .here)) rfl) .nil)) rfl) ?_
  refine .lit (Z:=(Z21 (0:Int) ((Vector.replicate 4 (0:Int)).toList.map eU64))) (xs:=(([(S131.mk (1:Int) t12)]:List S131).map e131)) (qs:=[(0,(e131 (S131.mk (1:Int) t12)))]) rfl 35 rfl (by decide) rfl ⟨rfl,rfl,rfl,trivial⟩ Try.underlying68 sz131 zr131 lay131 rfl (by decide) (litOK (z:=5) [(e131 (S131.mk (1:Int) t12))] rfl ⟨⟨rfl,rfl⟩,trivial⟩) rfl fun n13=>?_
  refine .a 4 ?_
  refine .nK [6,7] ?_
  refine .freezeS 0 [(6,(Z11 ([(S131.mk (1:Int) t12)]:List S131)))] rfl ⟨fz_all rfl,trivial⟩ ?_
  refine .coe 6 (y':=(Z25 ([(S131.mk (1:Int) t12)]:List S131))) rfl (fz_nz (by simp)) ?_
  refine .rK [6,7] ?_
  cases h
  exact⟨[(Z25 ([(S131.mk (1:Int) t12)]:List S131)),(eI64 (w64 (p1+(1:Int))))],⟨rfl,nz_notTup,rfl,rfl,trivial⟩,rfl⟩
 refine .a 5 ?_
 obtain⟨g14,h⟩:=of_guard h
 refine .a 4 ?_
 rcases oi h with⟨c15,h⟩|⟨c15,h⟩
 ·refine .a 3 ?_
  refine .c (x:=(Z21 (0:Int) ((Vector.replicate 4 (0:Int)).toList.map eU64))) (.build (qs:=[]) rfl trivial Try.underlying131 rfl zr131 lay131 .nil rfl) ?_
  refine .lit (Z:=(Z21 (0:Int) ((Vector.replicate 4 (0:Int)).toList.map eU64))) (xs:=(([(S131.mk (0:Int) (Vector.replicate 4 (0:Int)))]:List S131).map e131)) (qs:=[(0,(e131 (S131.mk (0:Int) (Vector.replicate 4 (0:Int)))))]) rfl 44 rfl (by decide) rfl ⟨rfl,rfl,rfl,trivial⟩ Try.underlying68 sz131 zr131 lay131 rfl (by decide) (litOK (z:=5) [(e131 (S131.mk (0:Int) (Vector.replicate 4 (0:Int))))] rfl ⟨⟨rfl,rfl⟩,trivial⟩) rfl fun n16=>?_
  refine .a 4 ?_
  refine .nK [6,7] ?_
  refine .freezeS 0 [(6,(Z11 ([(S131.mk (0:Int) (Vector.replicate 4 (0:Int)))]:List S131)))] rfl ⟨fz_all rfl,trivial⟩ ?_
  refine .coe 6 (y':=(Z25 ([(S131.mk (0:Int) (Vector.replicate 4 (0:Int)))]:List S131))) rfl (fz_nz (by simp)) ?_
  refine .rK [6,7] ?_
  cases h
  exact⟨[(Z25 ([(S131.mk (0:Int) (Vector.replicate 4 (0:Int)))]:List S131)),(eI64 (w64 (p1+(1:Int))))],⟨rfl,nz_notTup,rfl,rfl,trivial⟩,rfl⟩
 refine .a 5 ?_
 obtain⟨g17,h⟩:=of_guard h
 refine .a 4 ?_
 rcases oi h with⟨c18,h⟩|⟨c18,h⟩
 ·refine .a 6 ?_
  obtain⟨t19,et19,h⟩:=ob h
  refine .callS [(eStr p0),(eI64 (w64 (p1+(1:Int))))] (.tup [(nz 5 (t19.1.map e131)),(eI64 t19.2)]) 55 rfl (by decide) ok137 rfl rfl rfl ⟨rfl,rfl,rfl,rfl,trivial⟩ (F137_spec et19) ?_
  refine .a 4 ?_
  refine .nK [6,7] ?_
  refine .rK [6,7] ?_
  cases h
  exact⟨[(nz 5 (t19.1.map e131)),(eI64 t19.2)],⟨rfl,nz_notTup,rfl,rfl,trivial⟩,rfl⟩
 refine .a 5 ?_
 obtain⟨g20,h⟩:=of_guard h
 refine .a 4 ?_
 rcases oi h with⟨c21,h⟩|⟨c21,h⟩
 ·refine .a 7 ?_
  rcases oi h with⟨c22,h⟩|⟨c22,h⟩
  ·refine .a 6 ?_
   refine .nK [6,7] ?_
   refine .coe 6 (y':=(Z25 ([]:List S131))) rfl (fun _ _ h=>h) ?_
   refine .rK [6,7] ?_
   cases h
   exact⟨[(Z25 ([]:List S131)),(eI64 p1)],⟨rfl,nz_notTup,rfl,rfl,trivial⟩,rfl⟩
  refine .a 9 ?_
  obtain⟨t23,et23,h⟩:=ob h
  refine .callS [(eStr p0),(eI64 (w64 (p1+(1:Int)))),(eI64 (w64 (p2+(1:Int))))] (.tup [(nz 5 (t23.1.map e131)),(eI64 t23.2)]) 72 rfl (by decide) ok64 rfl rfl rfl ⟨rfl,rfl,rfl,rfl,rfl,rfl,trivial⟩ (hself64 _ _ _ _ et23) ?_
  refine .a 8 ?_
  obtain⟨b24,q25,h⟩:=ob h
  refine .regM [(8,(nz 5 (t23.1.map e131))),(9,(eI64 t23.2)),(88,(eBool b24))] [] ?_ ?_
  ·refine .a 1 ?_
   refine .c (x:=eBool (decide (t23.1=[]))) (.nzE rfl rfl Try.underlying68) ?_
   refine .a 1 ?_
   rcases oi q25 with⟨c26,q25⟩|⟨c26,q25⟩
   ·refine .a 11 ?_
    cases q25
    refine .nilE ⟨rfl,rfl⟩ ?_ ?_
    ·exact⟨rfl,rfl,rfl,trivial⟩
    exact(.refl _)
   refine .a 6 ?_
   rcases oi q25 with⟨c27,q25⟩|⟨c27,q25⟩
   ·refine .a 5 ?_
    cases q25
    refine .nilE ⟨rfl,rfl⟩ ?_ ?_
    ·exact⟨rfl,rfl,rfl,trivial⟩
    exact(.refl _)
   refine .a 2 ?_
   obtain⟨g28,q25⟩:=of_guard q25
   refine .a 3 ?_
   cases q25
   refine .nilE ⟨rfl,rfl⟩ ?_ ?_
   ·exact⟨rfl,rfl,rfl,trivial⟩
   exact(.refl _)
  rcases oi h with⟨c29,h⟩|⟨c29,h⟩
  ·refine .a 6 ?_
   refine .nK [6,7] ?_
   refine .coe 6 (y':=(Z25 ([]:List S131))) rfl (fun _ _ h=>h) ?_
   refine .rK [6,7] ?_
   cases h
   exact⟨[(Z25 ([]:List S131)),(eI64 t23.2)],⟨rfl,nz_notTup,rfl,rfl,trivial⟩,rfl⟩
  refine .a 9 ?_
  refine .nK [6,7] ?_
  refine .rK [6,7] ?_
  cases h
  exact⟨[(nz 5 (t23.1.map e131)),(eI64 (w64 (t23.2+(1:Int))))],⟨rfl,nz_notTup,rfl,rfl,trivial⟩,rfl⟩
 refine .a 6 ?_
 obtain⟨g30,h⟩:=of_guard h
 refine .c (x:=eStr (p0.extract p1.toNat (p0.size:Int).toNat)) (.sliceS rfl rfl rfl rfl g30 Try.underlying9) ?_
 obtain⟨t31,et31,h⟩:=ob h
 refine .callS [(eStr (p0.extract p1.toNat (p0.size:Int).toNat))] (.tup [(eU8 t31.1),(eI64 t31.2.1),(eBool t31.2.2)]) 97 rfl (by decide) ok138 rfl rfl rfl ⟨rfl,rfl,trivial⟩ (F138_spec et31) ?_
 refine .a 14 ?_
 rcases oi h with⟨c32,h⟩|⟨c32,h⟩
 ·refine .a 6 ?_
  refine .nK [6,7] ?_
  refine .coe 6 (y':=(Z25 ([]:List S131))) rfl (fun _ _ h=>h) ?_
  refine .rK [6,7] ?_
  cases h
  exact⟨[(Z25 ([]:List S131)),(eI64 p1)],⟨rfl,nz_notTup,rfl,rfl,trivial⟩,rfl⟩
 refine .a 4 ?_
 obtain⟨g34,h⟩:=of_guard h
 refine .makeL (f:=eBool) false rfl 104 rfl (by decide) rfl rfl rfl Try.underlying98 sz4 by4 zr4 lay4 rfl g34 fun n33=>?_
 refine .a 6 ?_
 obtain⟨g35,h⟩:=of_guard h
 refine .a 1 ?_
 refine .store 0 rfl rfl rfl rfl rfl rfl (.cast (.lidx t31.1 true g35.1 g35.2 .here) (by omega)) rfl rfl sz4 rfl ?_
 refine .coe 13 (y':=(Z28 n33 (lset (List.replicate (256:Int).toNat false) t31.1 true).length)) rfl (fun _ _ h=>lset_own h) ?_
 refine .coe 105 (y':=(Z28 n33 (lset (List.replicate (256:Int).toNat false) t31.1 true).length)) rfl (fun _ _ h=>lset_own h) ?_
 refine .a 4 ?_
 obtain⟨t36,et36,h⟩:=ob h
 refine .freezeS 0 [(13,(Z29 (lset (List.replicate (256:Int).toNat false) t31.1 true))),(108,(Z29 (lset (List.replicate (256:Int).toNat false) t31.1 true)))] rfl ⟨fz_all rfl,fz_all rfl,trivial⟩ ?_
 refine .callS [(Z29 (lset (List.replicate (256:Int).toNat false) t31.1 true))] (.ar 1 (t36.toList.map eU64)) 109 rfl (by decide) ok139 rfl rfl rfl ⟨rfl,rfl,trivial⟩ (F139_spec et36) ?_
 refine .c (x:=(Z21 (1:Int) (t36.toList.map eU64))) (.build (qs:=[(0,(eI64 (1:Int))),(1,(.ar 1 (t36.toList.map eU64)))]) rfl ⟨rfl,rfl,rfl,rfl,rfl,rfl,trivial⟩ Try.underlying131 rfl zr131 lay131 (.cons rfl rfl rfl rfl (.cast (.fld0 .here) rfl) (.cons rfl rfl (vec_size _ _) (vec_size _ _) (.cast (.fldS (.fld0 .here)) rfl) .nil)) rfl) ?_
 refine .lit (Z:=(Z21 (0:Int) ((Vector.replicate 4 (0:Int)).toList.map eU64))) (xs:=(([(S131.mk (1:Int) t36)]:List S131).map e131)) (qs:=[(0,(e131 (S131.mk (1:Int) t36)))]) rfl 111 rfl (by decide) rfl ⟨rfl,rfl,rfl,trivial⟩ Try.underlying68 sz131 zr131 lay131 rfl (by decide) (litOK (z:=5) [(e131 (S131.mk (1:Int) t36))] rfl ⟨⟨rfl,rfl⟩,trivial⟩) rfl fun n37=>?_
 refine .a 5 ?_
 refine .nK [6,7] ?_
 refine .freezeS 0 [(6,(Z11 ([(S131.mk (1:Int) t36)]:List S131)))] rfl ⟨fz_all rfl,trivial⟩ ?_
 refine .coe 6 (y':=(Z25 ([(S131.mk (1:Int) t36)]:List S131))) rfl (fz_nz (by simp)) ?_
 refine .rK [6,7] ?_
 cases h
 exact⟨[(Z25 ([(S131.mk (1:Int) t36)]:List S131)),(eI64 (w64 (p1+t31.2.1)))],⟨rfl,nz_notTup,rfl,rfl,trivial⟩,rfl⟩
theorem F64a_spec {k:Nat} {p0:ByteArray} {p1:Int} {p2:Int} {r:((List S131)×Int)} (h:F64a k p0 p1 p2=some r):Spec Try.prog 64 [(eStr p0),(eI64 p1),(eI64 p2)] (.tup [(nz 5 (r.1.map e131)),(eI64 r.2)]):=(F64a_all k k).1 p0 p1 p2 r h
def F33 (k:Nat) (p0:ByteArray):Option ((List S131)×Int):=
 if(1600:Int)<(p0.size:Int)then some ([],(6:Int))
 else(F64a k p0 (0:Int) (0:Int)).bind fun t3=>
 Option.bind (α:=Bool) (if t3.1=[]then some (true)
 else some (decide (t3.2<(p0.size:Int)))) fun b4=>
 if b4=true then some ([],(5:Int))
 else if(400:Int)<(t3.1.length:Int)then some ([],(6:Int))
 else some (t3.1,(0:Int))
theorem F33_spec {k:Nat} {p0:ByteArray} {r:((List S131)×Int)} (h:F33 k p0=some r):Spec Try.prog 33 [(eStr p0)] (.tup [(.fz 5 (r.1.map e131)),(eI64 r.2)]):=by
 rw[F33.eq_1]at h
 refine Spec.intro (res:=[.tmp 2,.tmp 3]) Try.func33 rfl rfl rfl (Nat.le_of_ble_eq_true rfl) ?_
 refine .a 12 ?_
 rcases oi h with⟨c2,h⟩|⟨c2,h⟩
 ·refine .a 5 ?_
  refine .nK [2,3] ?_
  refine .coeC 2 (y':=(Z11 ([]:List S131))) rfl Coe.nil ?_
  refine .rK [2,3] ?_
  cases h
  exact⟨[(Z11 ([]:List S131)),(eI64 (6:Int))],⟨rfl,rfl,rfl,rfl,trivial⟩,rfl⟩
 refine .a 5 ?_
 obtain⟨t3,et3,h⟩:=ob h
 refine .callS [(eStr p0),(eI64 (0:Int)),(eI64 (0:Int))] (.tup [(nz 5 (t3.1.map e131)),(eI64 t3.2)]) 11 rfl (by decide) ok64 rfl rfl rfl ⟨rfl,rfl,rfl,rfl,rfl,rfl,trivial⟩ (F64a_spec et3) ?_
 refine .a 8 ?_
 obtain⟨b4,q5,h⟩:=ob h
 refine .regM [(4,(nz 5 (t3.1.map e131))),(21,(eBool b4))] [] ?_ ?_
 ·refine .a 1 ?_
  refine .c (x:=eBool (decide (t3.1=[]))) (.nzE rfl rfl Try.underlying68) ?_
  refine .a 1 ?_
  rcases oi q5 with⟨c6,q5⟩|⟨c6,q5⟩
  ·refine .a 5 ?_
   cases q5
   refine .nilE ⟨rfl,rfl⟩ ?_ ?_
   ·exact⟨rfl,rfl,trivial⟩
   exact(.refl _)
  refine .a 5 ?_
  cases q5
  refine .nilE ⟨rfl,rfl⟩ ?_ ?_
  ·exact⟨rfl,rfl,trivial⟩
  exact(.refl _)
 rcases oi h with⟨c7,h⟩|⟨c7,h⟩
 ·refine .a 5 ?_
  refine .nK [2,3] ?_
  refine .coeC 2 (y':=(Z11 ([]:List S131))) rfl Coe.nil ?_
  refine .rK [2,3] ?_
  cases h
  exact⟨[(Z11 ([]:List S131)),(eI64 (5:Int))],⟨rfl,rfl,rfl,rfl,trivial⟩,rfl⟩
 refine .a 6 ?_
 refine .c (x:=eI64 (t3.1.length:Int)) (.lenNz rfl rfl Try.underlying68) ?_
 refine .a 2 ?_
 rcases oi h with⟨c8,h⟩|⟨c8,h⟩
 ·refine .a 5 ?_
  refine .nK [2,3] ?_
  refine .coeC 2 (y':=(Z11 ([]:List S131))) rfl Coe.nil ?_
  refine .rK [2,3] ?_
  cases h
  exact⟨[(Z11 ([]:List S131)),(eI64 (6:Int))],⟨rfl,rfl,rfl,rfl,trivial⟩,rfl⟩
 refine .a 7 ?_
 refine .nK [2,3] ?_
 refine .coe 2 (y':=(.fz 5 (t3.1.map e131))) rfl nz_fz ?_
 refine .rK [2,3] ?_
 cases h
 exact⟨[(.fz 5 (t3.1.map e131)),(eI64 (0:Int))],⟨rfl,rfl,rfl,rfl,trivial⟩,rfl⟩
def F57_c0 (k:Nat) (x3:Int):Option Int:=
 some (x3)
def F57_l1 (k:Nat) (p0:S55):Nat→Int→Int→Option Int
 | 0,_,_=>none
 | j+1,x4,x5=>
   if x5<(256:Int)then if 0≤x5∧x5<(256:Int)then(F57_l1 k p0 j) (max x4 (w64 ((w64 (vget p0.f0 x5))+(1:Int)))) (w64 (x5+(1:Int)))
   else none
   else F57_c0 k x4
def F57 (k:Nat) (p0:S55):Option Int:=
 F57_l1 k p0 k (0:Int) (0:Int)
theorem F57_spec {k:Nat} {p0:S55} {r:Int} (h:F57 k p0=some r):Spec Try.prog 57 [(e55 p0)] (eI64 r):=by
 rw[F57.eq_1]at h
 refine Spec.intro (res:=[.tmp 2]) Try.func57 rfl rfl rfl (Nat.le_of_ble_eq_true rfl) ?_
 refine .sr ?_
 refine .box rfl 1 rfl (by decide) rfl rfl rfl fun n2=>?_
 refine .a 5 ?_
 refine .nK [1,3] ?_
 refine .seq_mid (fun ρ H=>∃ (x3:Int),ρ=[(3,(eI64 x3))]∧H=[]∧F57_c0 k x3=some r) ?_ ?_
 ·refine .a 5 ?_
  refine .wK [1,3,4] ?_
  refine .loop (fun kq ρ H=>∃ (x4:Int) (x5:Int),ρ=[(1,(.ptr n2 0)),(3,(eI64 x4)),(4,(eI64 x5))]∧H=[(n2,(.mem (e55 p0)))]∧F57_l1 k p0 kq x4 x5=some r) k ⟨(0:Int),(0:Int),rfl,rfl,h⟩ ?_
  rintro kq7 _ _ ⟨x4,x5,rfl,rfl,h⟩
  cases kq7 with
  | zero=>rw[F57_l1.eq_1]at h;cases h
  | succ kq7=>
  rw[F57_l1.eq_2]at h
  generalize hrec6:F57_l1 k p0 kq7=rec6 at h
  refine .a 6 ?_
  rcases oi h with⟨c8,h⟩|⟨c8,h⟩
  ·refine .a 8 ?_
   obtain⟨g9,h⟩:=of_guard h
   refine .c (.idxP rfl rfl rfl g9 Try.underlying52 sz5) ?_
   refine .c (.load 0 rfl rfl rfl (.cast (.fld0 (.vidx x5 g9.1 g9.2 .here)) (by omega)) ag5 sz5) ?_
   refine .c (x:=eI64 (w64 (vget p0.f0 x5))) (.conv rfl rfl Try.underlying5 Try.underlying3) ?_
   refine .c (x:=eI64 (w64 ((w64 (vget p0.f0 x5))+(1:Int)))) (.int rfl rfl rfl rfl) ?_
   refine .c (x:=eI64 (max x4 (w64 ((w64 (vget p0.f0 x5))+(1:Int))))) (.max2 rfl rfl rfl) ?_
   refine .a 6 ?_
   refine .nK [1,3,4] ?_
   exact⟨kq7,Nat.lt_succ_self _,(max x4 (w64 ((w64 (vget p0.f0 x5))+(1:Int)))),(w64 (x5+(1:Int))),rfl,rfl,by rw[hrec6];exact h⟩
  refine .a 1 ?_
  refine .eH [3] (H':=[]) (.nil _) ?_
  exact⟨x4,rfl,rfl,h⟩
 rintro _ _ ⟨x3,rfl,rfl,h⟩
 rw[F57_c0.eq_1]at h
 refine .a 4 ?_
 refine .nK [2] ?_
 refine .rK [2] ?_
 have hr:=Option.some.inj h
 subst hr
 exact⟨[(eI64 x3)],⟨rfl,rfl,trivial⟩,rfl⟩
def F56_c0 (k:Nat):Option Bool:=
 some (true)
def F56_c1 (k:Nat) (rec4:(Int→Option Bool)) (x3:Int):Option Bool:=
 rec4 (w64 (x3+(1:Int)))
def F56_c2 (k:Nat) (rec4:(Int→Option Bool)) (x3:Int) (b8:Bool):Option Bool:=
 if(!b8)=true then some (false)
 else F56_c1 k rec4 x3
def F56_l3 (k:Nat) (rec4:(Int→Option Bool)) (p0:S55) (x3:Int):Nat→Bool→Int→Option Bool
 | 0,_,_=>none
 | j+1,b10,x11=>
   if x11<(256:Int)then Option.bind (α:=Bool) (if b10=true then some (true)
   else if 0≤x11∧x11<(256:Int)then some (decide ((w64 (vget p0.f0 x11))=x3))
   else none) fun b15=>
   (F56_l3 k rec4 p0 x3 j) b15 (w64 (x11+(1:Int)))
   else F56_c2 k rec4 x3 b10
def F56_l4 (k:Nat) (p0:S55):Nat→Int→Option Bool
 | 0,_=>none
 | j+1,x3=>
   (F57 k p0).bind fun t6=>
   if x3<t6 then F56_l3 k (F56_l4 k p0 j) p0 x3 k false (0:Int)
   else F56_c0 k
def F56 (k:Nat) (p0:S55):Option Bool:=
 F56_l4 k p0 k (0:Int)
theorem F56_spec {k:Nat} {p0:S55} {r:Bool} (h:F56 k p0=some r):Spec Try.prog 56 [(e55 p0)] (eBool r):=by
 rw[F56.eq_1]at h
 refine Spec.intro (res:=[.tmp 2]) Try.func56 rfl rfl rfl (Nat.le_of_ble_eq_true rfl) ?_
 refine .sr ?_
 refine .box rfl 1 rfl (by decide) rfl rfl rfl fun n2=>?_
 refine .a 1 ?_
 refine .nK [1] ?_
 refine .seq_mid (fun ρ H=>ρ=[]∧H=[]∧F56_c0 k=some r) ?_ ?_
 ·refine .a 5 ?_
  refine .wK [1,3] ?_
  refine .loop (fun kq ρ H=>∃ (x3:Int),ρ=[(1,(.ptr n2 0)),(3,(eI64 x3))]∧H=[(n2,(.mem (e55 p0)))]∧F56_l4 k p0 kq x3=some r) k ⟨(0:Int),rfl,rfl,h⟩ ?_
  rintro kq5 _ _ ⟨x3,rfl,rfl,h⟩
  cases kq5 with
  | zero=>rw[F56_l4.eq_1]at h;cases h
  | succ kq5=>
  rw[F56_l4.eq_2]at h
  generalize hrec4:F56_l4 k p0 kq5=rec4 at h
  refine .a 5 ?_
  obtain⟨t6,et6,h⟩:=ob h
  refine .callS [(e55 p0)] (eI64 t6) 8 rfl (by decide) ok57 rfl rfl rfl ⟨rfl,rfl,trivial⟩ (F57_spec et6) ?_
  refine .a 2 ?_
  rcases oi h with⟨c7,h⟩|⟨c7,h⟩
  ·refine .a 1 ?_
   refine .sK [1,3] ?_
   refine .seq_mid (fun ρ H=>ρ=[(1,(.ptr n2 0)),(3,(eI64 x3))]∧H=[(n2,(.mem (e55 p0)))]∧F56_c1 k rec4 x3=some r) ?_ ?_
   ·refine .a 4 ?_
    refine .nK [1,3,4] ?_
    refine .seq_mid (fun ρ H=>∃ (b8:Bool),ρ=[(1,(.ptr n2 0)),(3,(eI64 x3)),(4,(eBool b8))]∧H=[(n2,(.mem (e55 p0)))]∧F56_c2 k rec4 x3 b8=some r) ?_ ?_
    ·refine .a 5 ?_
     refine .wK [1,3,4,5] ?_
     refine .loop (fun kq ρ H=>∃ (b10:Bool) (x11:Int),ρ=[(1,(.ptr n2 0)),(3,(eI64 x3)),(4,(eBool b10)),(5,(eI64 x11))]∧H=[(n2,(.mem (e55 p0)))]∧F56_l3 k rec4 p0 x3 kq b10 x11=some r) k ⟨false,(0:Int),rfl,rfl,h⟩ ?_
     rintro kq13 _ _ ⟨b10,x11,rfl,rfl,h⟩
     cases kq13 with
     | zero=>rw[F56_l3.eq_1]at h;cases h
     | succ kq13=>
     rw[F56_l3.eq_2]at h
     generalize hrec12:F56_l3 k rec4 p0 x3 kq13=rec12 at h
     refine .a 6 ?_
     rcases oi h with⟨c14,h⟩|⟨c14,h⟩
     ·refine .a 4 ?_
      obtain⟨b15,q16,h⟩:=ob h
      refine .regM [(1,(.ptr n2 0)),(3,(eI64 x3)),(4,(eBool b15)),(5,(eI64 x11))] [(n2,(.mem (e55 p0)))] ?_ ?_
      ·refine .a 2 ?_
       rcases oi q16 with⟨c17,q16⟩|⟨c17,q16⟩
       ·refine .a 9 ?_
        cases q16
        refine .nilE ⟨rfl,rfl⟩ ?_ ?_
        ·exact⟨rfl,rfl,rfl,rfl,trivial⟩
        exact(.refl _)
       refine .a 2 ?_
       obtain⟨g18,q16⟩:=of_guard q16
       refine .cG rfl rfl (bD (eq_false_of_ne_true c17)) (.idxP rfl rfl rfl g18 Try.underlying52 sz5) ?_
       refine .cG rfl rfl (bD (eq_false_of_ne_true c17)) (.load 0 rfl rfl rfl (.cast (.fld0 (.vidx x11 g18.1 g18.2 .here)) (by omega)) ag5 sz5) ?_
       refine .cG (x:=eI64 (w64 (vget p0.f0 x11))) rfl rfl (bD (eq_false_of_ne_true c17)) (.conv rfl rfl Try.underlying5 Try.underlying3) ?_
       refine .cG rfl rfl (bD (eq_false_of_ne_true c17)) (.move rfl rfl) ?_
       refine .cG (x:=eBool (decide ((w64 (vget p0.f0 x11))=x3))) rfl rfl (bD (eq_false_of_ne_true c17)) (.int rfl rfl rfl rfl) ?_
       refine .c (.pickF rfl (bD (eq_false_of_ne_true c17)) rfl) ?_
       refine .ag rfl rfl ?_
       cases q16
       refine .nilE ⟨rfl,rfl⟩ ?_ ?_
       ·exact⟨rfl,rfl,rfl,rfl,trivial⟩
       exact(.refl _)
      refine .a 4 ?_
      refine .nK [1,3,4,5] ?_
      exact⟨kq13,Nat.lt_succ_self _,b15,(w64 (x11+(1:Int))),rfl,rfl,by rw[hrec12];exact h⟩
     refine .a 1 ?_
     refine .eK [1,3,4] ?_
     exact⟨b10,rfl,rfl,h⟩
    rintro _ _ ⟨b8,rfl,rfl,h⟩
    rw[F56_c2.eq_1]at h
    refine .a 5 ?_
    rcases oi h with⟨c9,h⟩|⟨c9,h⟩
    ·refine .a 4 ?_
     refine .nS [2] [] ?_
     refine .rK [2] ?_
     have hr:=Option.some.inj h
     subst hr
     exact⟨[(eBool false)],⟨rfl,rfl,trivial⟩,rfl⟩
    refine .a 1 ?_
    refine .sK [1,3] ?_
    exact⟨rfl,rfl,h⟩
   rintro _ _ ⟨rfl,rfl,h⟩
   rw[F56_c1.eq_1]at h
   refine .a 4 ?_
   refine .nK [1,3] ?_
   exact⟨kq5,Nat.lt_succ_self _,(w64 (x3+(1:Int))),rfl,rfl,by rw[hrec4];exact h⟩
  refine .a 1 ?_
  refine .eH [] (H':=[]) (.nil _) ?_
  exact⟨rfl,rfl,h⟩
 rintro _ _ ⟨rfl,rfl,h⟩
 rw[F56_c0.eq_1]at h
 refine .a 3 ?_
 refine .nK [2] ?_
 refine .rK [2] ?_
 have hr:=Option.some.inj h
 subst hr
 exact⟨[(eBool true)],⟨rfl,rfl,trivial⟩,rfl⟩
end Go.Avl.T7
