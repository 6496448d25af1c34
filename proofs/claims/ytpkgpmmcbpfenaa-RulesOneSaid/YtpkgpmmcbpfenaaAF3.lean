/- Parts: T7f95, T7f97, T7f125, T7f122, T7f96, T7f99, T7f123, T7f135, T7f124, T7f98, T7f100. -/
import Derived.Test.YtpkgpmmcbpfenaaAF1
namespace Go.Avl.T7
open Go Go.RowKit Go.Proofs Go.Avl
set_option linter.unusedVariables false
set_option maxRecDepth 100000
set_option maxHeartbeats 4000000
attribute [local irreducible] AW AO AQ Spec SpecH Calm
def F95_c0 (k:Nat):Option Bool:=
 some (true)
def F95_l1 (k:Nat) (p0:S121):Nat→Int→Option Bool
 | 0,_=>none
 | j+1,x9=>
   if x9<(p0.f1.length:Int)then if 0≤x9∧x9<(p0.f1.length:Int)then Option.bind (α:=Bool) (if((lget p0.f1 x9).f0)<(0:Int)then some (true)
   else if p0.f0≤((lget p0.f1 x9).f0)then some (true)
   else if((lget p0.f1 x9).f1)<(0:Int)then some (true)
   else some (decide (p0.f0≤((lget p0.f1 x9).f1)))) fun b15=>
   if b15=true then some (false)
   else(F95_l1 k p0 j) (w64 (x9+(1:Int)))
   else none
   else F95_c0 k
def F95 (k:Nat) (p0:S121):Option Bool:=
 Option.bind (α:=Bool) (if p0.f2<(0:Int)then some (true)
 else if p0.f0≤p0.f2 then some (true)
 else if p0.f3<(0:Int)then some (true)
 else some (decide (p0.f0≤p0.f3))) fun b3=>
 if b3=true then some (false)
 else F95_l1 k p0 k (0:Int)
theorem F95_spec {k:Nat} {p0:S121} {r:Bool} (h:F95 k p0=some r):Spec Try.prog 95 [(e121 p0)] (eBool r):=by
 rw[F95.eq_1]at h
 refine Spec.intro (res:=[.tmp 2]) Try.func95 rfl rfl rfl (Nat.le_of_ble_eq_true rfl) ?_
 refine .sr ?_
 refine .box rfl 1 rfl (by decide) rfl rfl rfl fun n2=>?_
 refine .a 4 ?_
 obtain⟨b3,q4,h⟩:=ob h
 refine .regM [(1,(.ptr n2 0)),(26,(eBool b3))] [(n2,(.mem (e121 p0)))] ?_ ?_
 ·refine .a 4 ?_
  rcases oi q4 with⟨c5,q4⟩|⟨c5,q4⟩
  ·refine .a 18 ?_
   cases q4
   refine .nilE ⟨rfl,rfl⟩ ?_ ?_
   ·exact⟨rfl,rfl,trivial⟩
   exact(.refl _)
  refine .a 7 ?_
  rcases oi q4 with⟨c6,q4⟩|⟨c6,q4⟩
  ·refine .a 11 ?_
   cases q4
   refine .nilE ⟨rfl,rfl⟩ ?_ ?_
   ·exact⟨rfl,rfl,trivial⟩
   exact(.refl _)
  refine .a 5 ?_
  rcases oi q4 with⟨c7,q4⟩|⟨c7,q4⟩
  ·refine .a 6 ?_
   cases q4
   refine .nilE ⟨rfl,rfl⟩ ?_ ?_
   ·exact⟨rfl,rfl,trivial⟩
   exact(.refl _)
  refine .a 6 ?_
  cases q4
  refine .nilE ⟨rfl,rfl⟩ ?_ ?_
  ·exact⟨rfl,rfl,trivial⟩
  exact(.refl _)
 rcases oi h with⟨c8,h⟩|⟨c8,h⟩
 ·refine .a 4 ?_
  refine .nS [2] [] ?_
  refine .rK [2] ?_
  have hr:=Option.some.inj h
  subst hr
  exact⟨[(eBool false)],⟨rfl,rfl,trivial⟩,rfl⟩
 refine .a 1 ?_
 refine .sK [1] ?_
 refine .seq_mid (fun ρ H=>ρ=[]∧H=[]∧F95_c0 k=some r) ?_ ?_
 ·refine .a 8 ?_
  refine .wK [1,28,29,30] ?_
  refine .loop (fun kq ρ H=>∃ (x9:Int),ρ=[(1,(.ptr n2 0)),(28,(.fz 7 (p0.f1.map e152))),(29,(eI64 (p0.f1.length:Int))),(30,(eI64 x9))]∧H=[(n2,(.mem (e121 p0)))]∧F95_l1 k p0 kq x9=some r) k ⟨(0:Int),rfl,rfl,h⟩ ?_
  rintro kq11 _ _ ⟨x9,rfl,rfl,h⟩
  cases kq11 with
  | zero=>rw[F95_l1.eq_1]at h;cases h
  | succ kq11=>
  rw[F95_l1.eq_2]at h
  generalize hrec10:F95_l1 k p0 kq11=rec10 at h
  refine .a 5 ?_
  rcases oi h with⟨c12,h⟩|⟨c12,h⟩
  ·refine .a 6 ?_
   obtain⟨g13,h⟩:=of_guard h
   refine .a 2 ?_
   refine .alloc rfl 4 rfl (by decide) rfl zr152 lay152 fun n14=>?_
   refine .store 0 rfl rfl rfl rfl rfl rfl (.cast .here rfl) rfl rfl sz152 rfl ?_
   refine .nS [1,4,28,29,30] [1,0] ?_
   refine .seq ?_
   obtain⟨b15,q16,h⟩:=ob h
   refine .regM [(1,(.ptr n2 0)),(28,(.fz 7 (p0.f1.map e152))),(29,(eI64 (p0.f1.length:Int))),(30,(eI64 x9)),(55,(eBool b15))] [(n2,(.mem (e121 p0)))] ?_ ?_
   ·refine .a 4 ?_
    rcases oi q16 with⟨c17,q16⟩|⟨c17,q16⟩
    ·refine .a 18 ?_
     cases q16
     refine .nilE ⟨rfl,rfl⟩ ?_ ?_
     ·exact⟨rfl,rfl,rfl,rfl,rfl,trivial⟩
     exact(.cons 0 rfl (.nil _))
    refine .a 7 ?_
    rcases oi q16 with⟨c18,q16⟩|⟨c18,q16⟩
    ·refine .a 11 ?_
     cases q16
     refine .nilE ⟨rfl,rfl⟩ ?_ ?_
     ·exact⟨rfl,rfl,rfl,rfl,rfl,trivial⟩
     exact(.cons 0 rfl (.nil _))
    refine .a 5 ?_
    rcases oi q16 with⟨c19,q16⟩|⟨c19,q16⟩
    ·refine .a 6 ?_
     cases q16
     refine .nilE ⟨rfl,rfl⟩ ?_ ?_
     ·exact⟨rfl,rfl,rfl,rfl,rfl,trivial⟩
     exact(.cons 0 rfl (.nil _))
    refine .a 6 ?_
    cases q16
    refine .nilE ⟨rfl,rfl⟩ ?_ ?_
    ·exact⟨rfl,rfl,rfl,rfl,rfl,trivial⟩
    exact(.cons 0 rfl (.nil _))
   rcases oi h with⟨c20,h⟩|⟨c20,h⟩
   ·refine .a 4 ?_
    refine .nS [2] [] ?_
    refine .rK [2] ?_
    have hr:=Option.some.inj h
    subst hr
    exact⟨[(eBool false)],⟨rfl,rfl,trivial⟩,rfl⟩
   refine .a 5 ?_
   refine .nK [1,28,29,30] ?_
   exact⟨kq11,Nat.lt_succ_self _,(w64 (x9+(1:Int))),rfl,rfl,by rw[hrec10];exact h⟩
  refine .a 1 ?_
  refine .eH [] (H':=[]) (.nil _) ?_
  exact⟨rfl,rfl,h⟩
 rintro _ _ ⟨rfl,rfl,h⟩
 rw[F95_c0.eq_1]at h
 refine .a 3 ?_
 refine .nK [2] ?_
 refine .rK [2] ?_
 have hr:=Option.some.inj h
 subst hr
 exact⟨[(eBool true)],⟨rfl,rfl,trivial⟩,rfl⟩
def F97_c0 (k:Nat) (x4:(List (Vector Int 4))):Option (List (Vector Int 4)):=
 some (x4)
def F97_c1 (k:Nat) (rec8:((List (Vector Int 4))→Int→Option (List (Vector Int 4)))) (x7:Int) (x12:(List (Vector Int 4))):Option (List (Vector Int 4)):=
 rec8 x12 (w64 (x7+(1:Int)))
def F97_l2 (k:Nat) (p0:S121):Nat→(List (Vector Int 4))→Int→Option (List (Vector Int 4))
 | 0,_,_=>none
 | j+1,x6,x7=>
   if x7<(p0.f1.length:Int)then if 0≤x7∧x7<(p0.f1.length:Int)then if(!((lget p0.f1 x7).f3))=true then if(x6++([(lget p0.f1 x7).f2]:List (Vector Int 4))).length*32≤140737488355328 then F97_c1 k (F97_l2 k p0 j) x7 (x6++([(lget p0.f1 x7).f2]:List (Vector Int 4)))
   else none
   else F97_c1 k (F97_l2 k p0 j) x7 x6
   else none
   else F97_c0 k x6
def F97 (k:Nat) (p0:S121):Option (List (Vector Int 4)):=
 F97_l2 k p0 k ([]:List (Vector Int 4)) (0:Int)
theorem F97_spec {k:Nat} {p0:S121} {r:(List (Vector Int 4))} (h:F97 k p0=some r):Spec Try.prog 97 [(e121 p0)] (e158 r):=by
 rw[F97.eq_1]at h
 refine Spec.intro (res:=[.tmp 2]) Try.func97 rfl rfl rfl (Nat.le_of_ble_eq_true rfl) ?_
 refine .sr ?_
 refine .box rfl 1 rfl (by decide) rfl rfl rfl fun n2=>?_
 refine .a 5 ?_
 refine .nK [1,3] ?_
 refine .seq_mid (fun ρ H=>∃ (n3:Nat) (x4:(List (Vector Int 4))),ρ=[(3,(.own n3 0 x4.length))]∧H=[(n3,(.mem (.ar 4 (x4.map e62))))]∧F97_c0 k x4=some r) ?_ ?_
 ·refine .a 6 ?_
  refine .nS [3,7,8,9] [] ?_
  refine .a 1 ?_
  refine .nilOwn 3 4 rfl fun n19=>?_
  refine .wK [3,7,8,9] ?_
  refine .loop (fun kq ρ H=>∃ (n5:Nat) (x6:(List (Vector Int 4))) (x7:Int),ρ=[(3,(.own n5 0 x6.length)),(7,(.fz 7 (p0.f1.map e152))),(8,(eI64 (p0.f1.length:Int))),(9,(eI64 x7))]∧H=[(n5,(.mem (.ar 4 (x6.map e62))))]∧F97_l2 k p0 kq x6 x7=some r) k ⟨n19,([]:List (Vector Int 4)),(0:Int),rfl,rfl,h⟩ ?_
  rintro kq9 _ _ ⟨n5,x6,x7,rfl,rfl,h⟩
  cases kq9 with
  | zero=>rw[F97_l2.eq_1]at h;cases h
  | succ kq9=>
  rw[F97_l2.eq_2]at h
  generalize hrec8:F97_l2 k p0 kq9=rec8 at h
  refine .a 5 ?_
  rcases oi h with⟨c10,h⟩|⟨c10,h⟩
  ·refine .a 1 ?_
   refine .sK [3,7,8,9] ?_
   refine .seq_mid (fun ρ H=>∃ (n11:Nat) (x12:(List (Vector Int 4))),ρ=[(3,(.own n11 0 x12.length)),(7,(.fz 7 (p0.f1.map e152))),(8,(eI64 (p0.f1.length:Int))),(9,(eI64 x7))]∧H=[(n11,(.mem (.ar 4 (x12.map e62))))]∧F97_c1 k rec8 x7 x12=some r) ?_ ?_
   ·refine .a 3 ?_
    obtain⟨g13,h⟩:=of_guard h
    refine .a 2 ?_
    refine .alloc rfl 5 rfl (by decide) rfl zr152 lay152 fun n14=>?_
    refine .store 0 rfl rfl rfl rfl rfl rfl (.cast .here rfl) rfl rfl sz152 rfl ?_
    refine .nS [3,5,7,8,9] [1,0] ?_
    refine .a 6 ?_
    rcases oi h with⟨c15,h⟩|⟨c15,h⟩
    ·refine .a 5 ?_
     refine .lit (Z:=(.ar 1 ((Vector.replicate 4 (0:Int)).toList.map eU64))) (xs:=(([(lget p0.f1 x7).f2]:List (Vector Int 4)).map e62)) (qs:=[(0,(.ar 1 (((lget p0.f1 x7).f2).toList.map eU64)))]) rfl 19 rfl (by decide) rfl ⟨rfl,rfl,rfl,trivial⟩ Try.underlying158 sz62 zr62 lay62 rfl (by decide) (litOK (z:=4) [(.ar 1 (((lget p0.f1 x7).f2).toList.map eU64))] (vec_size _ _) ⟨⟨rfl,(vec_size _ _)⟩,trivial⟩) rfl fun n16=>?_
     obtain⟨g18,h⟩:=of_guard h
     refine .appendL (l:=x6) (m:=([(lget p0.f1 x7).f2]:List (Vector Int 4))) 1 20 rfl (by decide) rfl rfl rfl rfl rfl (Src.ownL (f:=e62) (l:=([(lget p0.f1 x7).f2]:List (Vector Int 4))) 0 rfl) Try.underlying158 Try.underlying158 sz62 by62 zr62 rfl g18 (by decide) fun n17=>?_
     refine .a 1 ?_
     refine .nS [3,7,8,9] [1] ?_
     exact⟨n17,(x6++([(lget p0.f1 x7).f2]:List (Vector Int 4))),rfl,rfl,h⟩
    refine .a 1 ?_
    refine .sH [3,7,8,9] (H':=[(n5,(.mem (.ar 4 (x6.map e62))))]) (.cons 0 rfl (.nil _)) ?_
    exact⟨n5,x6,rfl,rfl,h⟩
   rintro _ _ ⟨n11,x12,rfl,rfl,h⟩
   rw[F97_c1.eq_1]at h
   refine .a 3 ?_
   refine .nK [3,7,8,9] ?_
   exact⟨kq9,Nat.lt_succ_self _,n11,x12,(w64 (x7+(1:Int))),rfl,rfl,by rw[hrec8];exact h⟩
  refine .a 1 ?_
  refine .eK [3] ?_
  exact⟨n5,x6,rfl,rfl,h⟩
 rintro _ _ ⟨n3,x4,rfl,rfl,h⟩
 rw[F97_c0.eq_1]at h
 refine .a 4 ?_
 refine .nK [2] ?_
 refine .freezeS 0 [(2,(.fz 4 (x4.map e62)))] rfl ⟨fz_all rfl,trivial⟩ ?_
 refine .rK [2] ?_
 have hr:=Option.some.inj h
 subst hr
 exact⟨[(.fz 4 (x4.map e62))],⟨rfl,rfl,trivial⟩,rfl⟩
def F125 (k:Nat) (p0:(Vector Int 4)) (p1:Int):Option Bool:=
 if 0≤(IntKind.u8.wrap (p1.tdiv (64:Int)))∧(IntKind.u8.wrap (p1.tdiv (64:Int)))<(4:Int)then if 0≤(p1.tmod (64:Int))then some (decide ((bits .and .u64 (Int.fdiv (vget p0 (IntKind.u8.wrap (p1.tdiv (64:Int)))) (2 ^ (min (p1.tmod (64:Int)).toNat IntKind.u64.bits))) (1:Int))=(1:Int)))
 else none
 else none
theorem F125_spec {k:Nat} {p0:(Vector Int 4)} {p1:Int} {r:Bool} (h:F125 k p0 p1=some r):Spec Try.prog 125 [(.ar 1 (p0.toList.map eU64)),(eU8 p1)] (eBool r):=by
 rw[F125.eq_1]at h
 refine Spec.intro (res:=[.tmp 4]) Try.func125 rfl rfl rfl (Nat.le_of_ble_eq_true rfl) ?_
 refine .sr ?_
 refine .box rfl 2 rfl (by decide) rfl rfl rfl fun n3=>?_
 refine .a 5 ?_
 refine .c (x:=eU8 (IntKind.u8.wrap (p1.tdiv (64:Int)))) (.quo rfl rfl rfl (by decide)) ?_
 obtain⟨g4,h⟩:=of_guard h
 refine .c (.idxP rfl rfl rfl g4 Try.underlying62 sz60) ?_
 refine .c (.load 0 rfl rfl rfl (.cast (.vidx (IntKind.u8.wrap (p1.tdiv (64:Int))) g4.1 g4.2 .here) (by omega)) ag60 sz60) ?_
 refine .mv rfl rfl ?_
 refine .c (x:=eU8 (p1.tmod (64:Int))) (.rem rfl rfl rfl (by decide)) ?_
 obtain⟨g5,h⟩:=of_guard h
 refine .c (x:=eU64 (Int.fdiv (vget p0 (IntKind.u8.wrap (p1.tdiv (64:Int)))) (2 ^ (min (p1.tmod (64:Int)).toNat IntKind.u64.bits)))) (.shr rfl rfl rfl g5) ?_
 refine .a 3 ?_
 refine .nS [4] [] ?_
 refine .rK [4] ?_
 cases h
 exact⟨[(eBool (decide ((bits .and .u64 (Int.fdiv (vget p0 (IntKind.u8.wrap (p1.tdiv (64:Int)))) (2 ^ (min (p1.tmod (64:Int)).toNat IntKind.u64.bits))) (1:Int))=(1:Int))))],⟨rfl,rfl,trivial⟩,rfl⟩
def F122_c0 (k:Nat) (x5:(List Int)):Option ByteArray:=
 some ((strOfNums x5))
def F122_c1 (k:Nat) (rec8:((List Int)→Int→Option ByteArray)) (x7:Int) (x11:(List Int)):Option ByteArray:=
 rec8 x11 (w64 (x7+(1:Int)))
def F122_l2 (k:Nat) (p0:(List (Vector Int 4))) (p1:Int):Nat→(List Int)→Int→Option ByteArray
 | 0,_,_=>none
 | j+1,x6,x7=>
   if x7<(p0.length:Int)then if 0≤x7∧x7<(p0.length:Int)then(F125 k (lget p0 x7) p1).bind fun t14=>
   if t14=true then if 0≤(IntKind.i64.wrap (x7.tdiv (8:Int)))∧(IntKind.i64.wrap (x7.tdiv (8:Int)))<(x6.length:Int)then if 0≤(u64 (x7.tmod (8:Int)))then if 0≤(IntKind.i64.wrap (x7.tdiv (8:Int)))∧(IntKind.i64.wrap (x7.tdiv (8:Int)))<(x6.length:Int)then F122_c1 k (F122_l2 k p0 p1 j) x7 (lset x6 (IntKind.i64.wrap (x7.tdiv (8:Int))) (bits .or .u8 (lget x6 (IntKind.i64.wrap (x7.tdiv (8:Int)))) (IntKind.u8.wrap ((1:Int)*2 ^ (min (u64 (x7.tmod (8:Int))).toNat IntKind.u8.bits)))))
   else none
   else none
   else none
   else F122_c1 k (F122_l2 k p0 p1 j) x7 x6
   else none
   else F122_c0 k x6
def F122 (k:Nat) (p0:(List (Vector Int 4))) (p1:Int):Option ByteArray:=
 if 0≤(IntKind.i64.wrap ((w64 ((p0.length:Int)+(7:Int))).tdiv (8:Int)))∧(IntKind.i64.wrap ((w64 ((p0.length:Int)+(7:Int))).tdiv (8:Int)))*(1:Int)≤140737488355328∧(IntKind.i64.wrap ((w64 ((p0.length:Int)+(7:Int))).tdiv (8:Int)))≤9223372036854775807 then F122_l2 k p0 p1 k (List.replicate (IntKind.i64.wrap ((w64 ((p0.length:Int)+(7:Int))).tdiv (8:Int))).toNat (0:Int)) (0:Int)
 else none
theorem F122_spec {k:Nat} {p0:(List (Vector Int 4))} {p1:Int} {r:ByteArray} (h:F122 k p0 p1=some r):Spec Try.prog 122 [(.fz 4 (p0.map e62)),(eU8 p1)] (eStr r):=by
 rw[F122.eq_1]at h
 refine Spec.intro (res:=[.tmp 4]) Try.func122 rfl rfl rfl (Nat.le_of_ble_eq_true rfl) ?_
 refine .a 9 ?_
 refine .c (x:=eI64 (IntKind.i64.wrap ((w64 ((p0.length:Int)+(7:Int))).tdiv (8:Int)))) (.quo rfl rfl rfl (by decide)) ?_
 obtain⟨g4,h⟩:=of_guard h
 refine .makeL (f:=eU8) (0:Int) rfl 12 rfl (by decide) rfl rfl rfl Try.underlying102 sz5 by5 zr5 lay5 rfl g4 fun n3=>?_
 refine .a 1 ?_
 refine .nK [0,1,5] ?_
 refine .seq_mid (fun ρ H=>∃ (x5:(List Int)),ρ=[(5,(.own n3 0 x5.length))]∧H=[(Z32 n3 x5)]∧F122_c0 k x5=some r) ?_ ?_
 ·refine .a 7 ?_
  refine .wK [1,5,13,14,15] ?_
  refine .loop (fun kq ρ H=>∃ (x6:(List Int)) (x7:Int),ρ=[(1,(eU8 p1)),(5,(.own n3 0 x6.length)),(13,(.fz 4 (p0.map e62))),(14,(eI64 (p0.length:Int))),(15,(eI64 x7))]∧H=[(Z32 n3 x6)]∧F122_l2 k p0 p1 kq x6 x7=some r) k ⟨(List.replicate (IntKind.i64.wrap ((w64 ((p0.length:Int)+(7:Int))).tdiv (8:Int))).toNat (0:Int)),(0:Int),rfl,rfl,h⟩ ?_
  rintro kq9 _ _ ⟨x6,x7,rfl,rfl,h⟩
  cases kq9 with
  | zero=>rw[F122_l2.eq_1]at h;cases h
  | succ kq9=>
  rw[F122_l2.eq_2]at h
  generalize hrec8:F122_l2 k p0 p1 kq9=rec8 at h
  refine .a 5 ?_
  rcases oi h with⟨c10,h⟩|⟨c10,h⟩
  ·refine .a 1 ?_
   refine .sK [1,5,13,14,15] ?_
   refine .seq_mid (fun ρ H=>∃ (x11:(List Int)),ρ=[(1,(eU8 p1)),(5,(.own n3 0 x11.length)),(13,(.fz 4 (p0.map e62))),(14,(eI64 (p0.length:Int))),(15,(eI64 x7))]∧H=[(Z32 n3 x11)]∧F122_c1 k rec8 x7 x11=some r) ?_ ?_
   ·refine .a 4 ?_
    obtain⟨g12,h⟩:=of_guard h
    refine .a 2 ?_
    refine .alloc rfl 7 rfl (by decide) rfl zr62 lay62 fun n13=>?_
    refine .a 1 ?_
    refine .store 0 rfl rfl rfl rfl rfl rfl (.cast .here rfl) rfl (by simp[AV.size]) (by rw[sz62];simp[AV.size]) rfl ?_
    refine .nS [1,5,6,7,13,14,15] [1,0] ?_
    refine .a 4 ?_
    obtain⟨t14,et14,h⟩:=ob h
    refine .callS [(.ar 1 ((lget p0 x7).toList.map eU64)),(eU8 p1)] (eBool t14) 22 rfl (by decide) ok125 rfl rfl rfl ⟨rfl,rfl,rfl,rfl,trivial⟩ (F125_spec et14) ?_
    refine .nS [1,5,6,13,14,15,22] [0] ?_
    rcases oi h with⟨c15,h⟩|⟨c15,h⟩
    ·refine .a 4 ?_
     refine .c (x:=eI64 (IntKind.i64.wrap (x7.tdiv (8:Int)))) (.quo rfl rfl rfl (by decide)) ?_
     obtain⟨g16,h⟩:=of_guard h
     refine .c (.idxO 0 rfl rfl rfl rfl g16 Try.underlying102 sz5) ?_
     refine .c (.load 0 rfl rfl rfl (.cast (.lidx (IntKind.i64.wrap (x7.tdiv (8:Int))) g16.1 g16.2 .here) (by omega)) ag5 sz5) ?_
     refine .mv rfl rfl ?_
     refine .c (x:=eI64 (x7.tmod (8:Int))) (.rem rfl rfl rfl (by decide)) ?_
     refine .a 1 ?_
     obtain⟨g17,h⟩:=of_guard h
     refine .c (x:=eU8 (IntKind.u8.wrap ((1:Int)*2 ^ (min (u64 (x7.tmod (8:Int))).toNat IntKind.u8.bits)))) (.shl rfl rfl rfl g17) ?_
     refine .a 1 ?_
     obtain⟨g18,h⟩:=of_guard h
     refine .a 1 ?_
     refine .store 0 rfl rfl rfl rfl rfl rfl (.cast (.lidx (IntKind.i64.wrap (x7.tdiv (8:Int))) (bits .or .u8 (lget x6 (IntKind.i64.wrap (x7.tdiv (8:Int)))) (IntKind.u8.wrap ((1:Int)*2 ^ (min (u64 (x7.tmod (8:Int))).toNat IntKind.u8.bits)))) g18.1 g18.2 .here) (by omega)) rfl rfl sz5 rfl ?_
     refine .coe 5 (y':=(Z28 n3 (lset x6 (IntKind.i64.wrap (x7.tdiv (8:Int))) (bits .or .u8 (lget x6 (IntKind.i64.wrap (x7.tdiv (8:Int)))) (IntKind.u8.wrap ((1:Int)*2 ^ (min (u64 (x7.tmod (8:Int))).toNat IntKind.u8.bits))))).length)) rfl (fun _ _ h=>lset_own h) ?_
     refine .coe 23 (y':=(Z28 n3 (lset x6 (IntKind.i64.wrap (x7.tdiv (8:Int))) (bits .or .u8 (lget x6 (IntKind.i64.wrap (x7.tdiv (8:Int)))) (IntKind.u8.wrap ((1:Int)*2 ^ (min (u64 (x7.tmod (8:Int))).toNat IntKind.u8.bits))))).length)) rfl (fun _ _ h=>lset_own h) ?_
     refine .nK [1,5,13,14,15] ?_
     exact⟨(lset x6 (IntKind.i64.wrap (x7.tdiv (8:Int))) (bits .or .u8 (lget x6 (IntKind.i64.wrap (x7.tdiv (8:Int)))) (IntKind.u8.wrap ((1:Int)*2 ^ (min (u64 (x7.tmod (8:Int))).toNat IntKind.u8.bits))))),rfl,rfl,h⟩
    refine .a 1 ?_
    refine .sK [1,5,13,14,15] ?_
    exact⟨x6,rfl,rfl,h⟩
   rintro _ _ ⟨x11,rfl,rfl,h⟩
   rw[F122_c1.eq_1]at h
   refine .a 3 ?_
   refine .nK [1,5,13,14,15] ?_
   exact⟨kq9,Nat.lt_succ_self _,x11,(w64 (x7+(1:Int))),rfl,rfl,by rw[hrec8];exact h⟩
  refine .a 1 ?_
  refine .eK [5] ?_
  exact⟨x6,rfl,rfl,h⟩
 rintro _ _ ⟨x5,rfl,rfl,h⟩
 rw[F122_c0.eq_1]at h
 refine .a 3 ?_
 refine .c (x:=eStr (strOfNums x5)) (.strO 0 rfl rfl rfl Try.underlying102 Try.underlying9 Try.underlying5) ?_
 refine .a 1 ?_
 refine .nS [4] [] ?_
 refine .rK [4] ?_
 cases h
 exact⟨[(eStr (strOfNums x5))],⟨rfl,rfl,trivial⟩,rfl⟩
def F96_c0 (k:Nat) (x5:(Vector Int 256)):Option (Vector Int 256):=
 some (x5)
def F96_c1 (k:Nat) (rec9:((Vector Int 256)→(List (ByteArray×Int))→Int→Option (Vector Int 256))) (x6:(Vector Int 256)) (x8:Int) (x13:(List (ByteArray×Int))) (x14:Int):Option (Vector Int 256):=
 if 0≤x8∧x8<(256:Int)then rec9 (vset x6 x8 (w8 x14)) x13 (w64 (x8+(1:Int)))
 else none
def F96_l2 (k:Nat) (p0:(List (Vector Int 4))):Nat→(Vector Int 256)→(List (ByteArray×Int))→Int→Option (Vector Int 256)
 | 0,_,_,_=>none
 | j+1,x6,x7,x8=>
   if x8<(256:Int)then(F122 k p0 (w8 x8)).bind fun t12=>
   if(!((mget x7 t12).isSome))=true then F96_c1 k (F96_l2 k p0 j) x6 x8 (mput x7 t12 (x7.length:Int)) (x7.length:Int)
   else F96_c1 k (F96_l2 k p0 j) x6 x8 x7 ((mget x7 t12).getD (0:Int))
   else F96_c0 k x6
def F96 (k:Nat) (p0:(List (Vector Int 4))):Option (Vector Int 256):=
 F96_l2 k p0 k (Vector.replicate 256 (0:Int)) ([]:List (ByteArray×Int)) (0:Int)
theorem F96_spec {k:Nat} {p0:(List (Vector Int 4))} {r:(Vector Int 256)} (h:F96 k p0=some r):Spec Try.prog 96 [(.fz 4 (p0.map e62))] (e52 r):=by
 rw[F96.eq_1]at h
 refine Spec.intro (res:=[.cell 2 52]) Try.func96 rfl rfl rfl (Nat.le_of_ble_eq_true rfl) ?_
 refine .sr ?_
 refine .alloc rfl 2 rfl (by decide) rfl zr52 lay52 fun n2=>?_
 refine .a 3 ?_
 refine .alloc rfl 3 rfl (by decide) rfl zr52 lay52 fun n3=>?_
 refine .nS [0,2,3] [1,0] ?_
 refine .sr ?_
 refine .makeMap rfl 9 rfl (by decide) rfl fun n4=>?_
 refine .a 1 ?_
 refine .nS [0,2,3,4] [1,2,0] ?_
 refine .seq_mid (fun ρ H=>∃ (x5:(Vector Int 256)),ρ=[(2,(.ptr n2 0)),(3,(.ptr n3 0))]∧H=[(Z13 n2 ((Vector.replicate 256 (0:Int)).toList.map eU8)),(Z13 n3 (x5.toList.map eU8))]∧F96_c0 k x5=some r) ?_ ?_
 ·refine .a 5 ?_
  refine .wK [0,2,3,4,10] ?_
  refine .loop (fun kq ρ H=>∃ (x6:(Vector Int 256)) (x7:(List (ByteArray×Int))) (x8:Int),ρ=[(0,(.fz 4 (p0.map e62))),(2,(.ptr n2 0)),(3,(.ptr n3 0)),(4,(.mp n4)),(10,(eI64 x8))]∧H=[(Z13 n2 ((Vector.replicate 256 (0:Int)).toList.map eU8)),(Z13 n3 (x6.toList.map eU8)),(n4,(.map (encM Value.string eI64 x7)))]∧F96_l2 k p0 kq x6 x7 x8=some r) k ⟨(Vector.replicate 256 (0:Int)),([]:List (ByteArray×Int)),(0:Int),rfl,rfl,h⟩ ?_
  rintro kq10 _ _ ⟨x6,x7,x8,rfl,rfl,h⟩
  cases kq10 with
  | zero=>rw[F96_l2.eq_1]at h;cases h
  | succ kq10=>
  rw[F96_l2.eq_2]at h
  generalize hrec9:F96_l2 k p0 kq10=rec9 at h
  refine .a 5 ?_
  rcases oi h with⟨c11,h⟩|⟨c11,h⟩
  ·refine .a 14 ?_
   obtain⟨t12,et12,h⟩:=ob h
   refine .callS [(.fz 4 (p0.map e62)),(eU8 (w8 x8))] (eStr t12) 16 rfl (by decide) ok122 rfl rfl rfl ⟨rfl,rfl,rfl,rfl,trivial⟩ (F122_spec et12) ?_
   refine .a 6 ?_
   refine .c (x:=.tup [(eI64 ((mget x7 t12).getD (0:Int))),(eBool ((mget x7 t12).isSome))]) (.look2 (f:=eI64) string_inj string_key (0:Int) 2 rfl rfl rfl rfl Try.underlying109 Try.underlying9 mz3) ?_
   refine .a 5 ?_
   refine .nK [0,2,3,4,5,6,7,8,10] ?_
   refine .seq_mid (fun ρ H=>∃ (x13:(List (ByteArray×Int))) (x14:Int),ρ=[(0,(.fz 4 (p0.map e62))),(2,(.ptr n2 0)),(3,(.ptr n3 0)),(4,(.mp n4)),(5,(eI64 x8)),(7,(eI64 x14)),(10,(eI64 x8))]∧H=[(Z13 n2 ((Vector.replicate 256 (0:Int)).toList.map eU8)),(Z13 n3 (x6.toList.map eU8)),(n4,(.map (encM Value.string eI64 x13)))]∧F96_c1 k rec9 x6 x8 x13 x14=some r) ?_ ?_
   ·refine .a 5 ?_
    rcases oi h with⟨c16,h⟩|⟨c16,h⟩
    ·refine .a 4 ?_
     refine .c (x:=eI64 (x7.length:Int)) (.lenMap 2 rfl rfl rfl Try.underlying109) ?_
     refine .a 6 ?_
     refine .mapPut (f:=eI64) string_inj string_key 2 rfl rfl rfl rfl rfl rfl rfl rfl Try.underlying109 Try.underlying9 ?_
     refine .nK [0,2,3,4,5,7,10] ?_
     exact⟨(mput x7 t12 (x7.length:Int)),(x7.length:Int),rfl,rfl,h⟩
    refine .a 1 ?_
    refine .sK [0,2,3,4,5,7,10] ?_
    exact⟨x7,((mget x7 t12).getD (0:Int)),rfl,rfl,h⟩
   rintro _ _ ⟨x13,x14,rfl,rfl,h⟩
   rw[F96_c1.eq_1]at h
   refine .a 4 ?_
   obtain⟨g15,h⟩:=of_guard h
   refine .c (.idxP rfl rfl rfl g15 Try.underlying52 sz5) ?_
   refine .store 1 rfl rfl rfl rfl rfl rfl (.cast (.vidx x8 (w8 x14) g15.1 g15.2 .here) (by omega)) rfl rfl sz5 rfl ?_
   refine .a 4 ?_
   refine .nK [0,2,3,4,10] ?_
   exact⟨kq10,Nat.lt_succ_self _,(vset x6 x8 (w8 x14)),x13,(w64 (x8+(1:Int))),rfl,rfl,by rw[hrec9];exact h⟩
  refine .a 1 ?_
  refine .eH [2,3] (H':=[(Z13 n2 ((Vector.replicate 256 (0:Int)).toList.map eU8)),(Z13 n3 (x6.toList.map eU8))]) (.cons 0 rfl (.cons 0 rfl (.nil _))) ?_
  exact⟨x6,rfl,rfl,h⟩
 rintro _ _ ⟨x5,rfl,rfl,h⟩
 rw[F96_c0.eq_1]at h
 refine .a 3 ?_
 refine .store 0 rfl rfl rfl rfl rfl rfl (.cast .here rfl) rfl (by simp[AV.size]) (by rw[sz52];simp[AV.size]) rfl ?_
 refine .nS [2] [0] ?_
 refine .rK [2] ?_
 have hr:=Option.some.inj h
 subst hr
 exact⟨[(.ar 1 (x5.toList.map eU8))],⟨⟨_,0,rfl,rfl,ag52,(by rw[sz52];simp[AV.size])⟩,trivial⟩,rfl⟩
def F99_c0 (k:Nat) (x6:(List Bool)):Option (List Bool):=
 some (x6)
def F99_c1 (k:Nat) (rec15:((List Bool)→Bool→Int→Option (List Bool))) (x14:Int) (x18:(List Bool)) (b19:Bool):Option (List Bool):=
 rec15 x18 b19 (w64 (x14+(1:Int)))
def F99_l2 (k:Nat) (rec9:((List Bool)→Bool→Option (List Bool))) (p0:S121):Nat→(List Bool)→Bool→Int→Option (List Bool)
 | 0,_,_,_=>none
 | j+1,x12,b13,x14=>
   if x14<(p0.f1.length:Int)then if 0≤x14∧x14<(p0.f1.length:Int)then Option.bind (α:=Bool) (if((lget p0.f1 x14).f3)=true then if 0≤((lget p0.f1 x14).f0)∧((lget p0.f1 x14).f0)<(x12.length:Int)then if(lget x12 ((lget p0.f1 x14).f0))=true then if 0≤((lget p0.f1 x14).f1)∧((lget p0.f1 x14).f1)<(x12.length:Int)then some (!(lget x12 ((lget p0.f1 x14).f1)))
   else none
   else some (false)
   else none
   else some (false)) fun b22=>
   if b22=true then if 0≤((lget p0.f1 x14).f1)∧((lget p0.f1 x14).f1)<(x12.length:Int)then F99_c1 k (F99_l2 k rec9 p0 j) x14 (lset x12 ((lget p0.f1 x14).f1) true) true
   else none
   else F99_c1 k (F99_l2 k rec9 p0 j) x14 x12 b13
   else none
   else rec9 x12 b13
def F99_l3 (k:Nat) (p0:S121):Nat→(List Bool)→Bool→Option (List Bool)
 | 0,_,_=>none
 | j+1,x7,b8=>
   if b8=true then F99_l2 k (F99_l3 k p0 j) p0 k x7 false (0:Int)
   else F99_c0 k x7
def F99 (k:Nat) (p0:S121) (p1:(List Bool)):Option (List Bool):=
 if 0≤p0.f0∧p0.f0*(1:Int)≤140737488355328∧p0.f0≤9223372036854775807 then F99_l3 k p0 k (lcopy (List.replicate p0.f0.toNat false) p1) true
 else none
theorem F99_spec {k:Nat} {p0:S121} {p1:(List Bool)} {r:(List Bool)} (h:F99 k p0 p1=some r):Spec Try.prog 99 [(e121 p0),(.fz 1 (p1.map eBool))] (e98 r):=by
 rw[F99.eq_1]at h
 refine Spec.intro (res:=[.tmp 4]) Try.func99 rfl rfl rfl (Nat.le_of_ble_eq_true rfl) ?_
 refine .sr ?_
 refine .box rfl 2 rfl (by decide) rfl rfl rfl fun n3=>?_
 refine .a 6 ?_
 obtain⟨g5,h⟩:=of_guard h
 refine .makeL (f:=eBool) false rfl 11 rfl (by decide) rfl rfl rfl Try.underlying98 sz4 by4 zr4 lay4 rfl g5 fun n4=>?_
 refine .a 1 ?_
 refine .nS [1,2,5] [1,0] ?_
 refine .a 4 ?_
 refine .copyL (l:=(List.replicate p0.f0.toNat false)) (m:=p1) (f:=eBool) 1 14 rfl (by decide) rfl rfl rfl rfl rfl Try.underlying98 sz4 ?_
 refine .coe 5 (y':=(Z28 n4 (lcopy (List.replicate p0.f0.toNat false) p1).length)) rfl (fun _ _ h=>lcopy_own h) ?_
 refine .coe 12 (y':=(Z28 n4 (lcopy (List.replicate p0.f0.toNat false) p1).length)) rfl (fun _ _ h=>lcopy_own h) ?_
 refine .nK [2,5] ?_
 refine .seq_mid (fun ρ H=>∃ (x6:(List Bool)),ρ=[(5,(.own n4 0 x6.length))]∧H=[(Z9 n4 x6)]∧F99_c0 k x6=some r) ?_ ?_
 ·refine .a 5 ?_
  refine .wK [2,5,6] ?_
  refine .loop (fun kq ρ H=>∃ (x7:(List Bool)) (b8:Bool),ρ=[(2,(.ptr n3 0)),(5,(.own n4 0 x7.length)),(6,(eBool b8))]∧H=[(n3,(.mem (e121 p0))),(Z9 n4 x7)]∧F99_l3 k p0 kq x7 b8=some r) k ⟨(lcopy (List.replicate p0.f0.toNat false) p1),true,rfl,rfl,h⟩ ?_
  rintro kq10 _ _ ⟨x7,b8,rfl,rfl,h⟩
  cases kq10 with
  | zero=>rw[F99_l3.eq_1]at h;cases h
  | succ kq10=>
  rw[F99_l3.eq_2]at h
  generalize hrec9:F99_l3 k p0 kq10=rec9 at h
  refine .a 5 ?_
  rcases oi h with⟨c11,h⟩|⟨c11,h⟩
  ·refine .a 15 ?_
   refine .wK [2,5,6,17,18,19] ?_
   refine .loop (fun kq ρ H=>∃ (x12:(List Bool)) (b13:Bool) (x14:Int),ρ=[(2,(.ptr n3 0)),(5,(.own n4 0 x12.length)),(6,(eBool b13)),(17,(.fz 7 (p0.f1.map e152))),(18,(eI64 (p0.f1.length:Int))),(19,(eI64 x14))]∧H=[(n3,(.mem (e121 p0))),(Z9 n4 x12)]∧F99_l2 k rec9 p0 kq x12 b13 x14=some r) k ⟨x7,false,(0:Int),rfl,rfl,h⟩ ?_
   rintro kq16 _ _ ⟨x12,b13,x14,rfl,rfl,h⟩
   cases kq16 with
   | zero=>rw[F99_l2.eq_1]at h;cases h
   | succ kq16=>
   rw[F99_l2.eq_2]at h
   generalize hrec15:F99_l2 k rec9 p0 kq16=rec15 at h
   refine .a 5 ?_
   rcases oi h with⟨c17,h⟩|⟨c17,h⟩
   ·refine .a 1 ?_
    refine .sK [2,5,6,17,18,19] ?_
    refine .seq_mid (fun ρ H=>∃ (x18:(List Bool)) (b19:Bool),ρ=[(2,(.ptr n3 0)),(5,(.own n4 0 x18.length)),(6,(eBool b19)),(17,(.fz 7 (p0.f1.map e152))),(18,(eI64 (p0.f1.length:Int))),(19,(eI64 x14))]∧H=[(n3,(.mem (e121 p0))),(Z9 n4 x18)]∧F99_c1 k rec15 x14 x18 b19=some r) ?_ ?_
    ·refine .a 3 ?_
     obtain⟨g20,h⟩:=of_guard h
     refine .a 2 ?_
     refine .alloc rfl 8 rfl (by decide) rfl zr152 lay152 fun n21=>?_
     refine .store 0 rfl rfl rfl rfl rfl rfl (.cast .here rfl) rfl rfl sz152 rfl ?_
     refine .nS [2,5,6,8,17,18,19] [1,2,0] ?_
     refine .seq ?_
     obtain⟨b22,q23,h⟩:=ob h
     refine .regM [(2,(.ptr n3 0)),(5,(.own n4 0 x12.length)),(6,(eBool b13)),(8,(.ptr n21 0)),(17,(.fz 7 (p0.f1.map e152))),(18,(eI64 (p0.f1.length:Int))),(19,(eI64 x14)),(39,(eBool b22))] [(n3,(.mem (e121 p0))),(Z9 n4 x12),(n21,(.mem (e152 (lget p0.f1 x14))))] ?_ ?_
     ·refine .a 3 ?_
      rcases oi q23 with⟨c24,q23⟩|⟨c24,q23⟩
      ·refine .a 3 ?_
       obtain⟨g25,q23⟩:=of_guard q23
       refine .cG rfl rfl (bD c24) (.idxO 1 rfl rfl rfl rfl g25 Try.underlying98 sz4) ?_
       refine .cG rfl rfl (bD c24) (.load 1 rfl rfl rfl (.cast (.lidx ((lget p0.f1 x14).f0) g25.1 g25.2 .here) (by omega)) ag4 sz4) ?_
       refine .c (.pickT rfl (bD c24) rfl) ?_
       refine .mv rfl rfl ?_
       rcases oi q23 with⟨c26,q23⟩|⟨c26,q23⟩
       ·refine .a 3 ?_
        obtain⟨g27,q23⟩:=of_guard q23
        refine .cG rfl rfl (bD c26) (.idxO 1 rfl rfl rfl rfl g27 Try.underlying98 sz4) ?_
        refine .cG rfl rfl (bD c26) (.load 1 rfl rfl rfl (.cast (.lidx ((lget p0.f1 x14).f1) g27.1 g27.2 .here) (by omega)) ag4 sz4) ?_
        refine .cG rfl rfl (bD c26) (.not rfl rfl) ?_
        refine .c (.pickT rfl (bD c26) rfl) ?_
        cases q23
        refine .nilE ⟨rfl,rfl⟩ ?_ ?_
        ·exact⟨rfl,rfl,rfl,rfl,rfl,rfl,rfl,rfl,trivial⟩
        exact(.refl _)
       refine .a 7 ?_
       cases q23
       refine .nilE ⟨rfl,rfl⟩ ?_ ?_
       ·exact⟨rfl,rfl,rfl,rfl,rfl,rfl,rfl,rfl,trivial⟩
       exact(.refl _)
      refine .a 14 ?_
      cases q23
      refine .nilE ⟨rfl,rfl⟩ ?_ ?_
      ·exact⟨rfl,rfl,rfl,rfl,rfl,rfl,rfl,rfl,trivial⟩
      exact(.refl _)
     rcases oi h with⟨c28,h⟩|⟨c28,h⟩
     ·refine .a 5 ?_
      obtain⟨g29,h⟩:=of_guard h
      refine .a 1 ?_
      refine .store 1 rfl rfl rfl rfl rfl rfl (.cast (.lidx ((lget p0.f1 x14).f1) true g29.1 g29.2 .here) (by omega)) rfl rfl sz4 rfl ?_
      refine .coe 5 (y':=(Z28 n4 (lset x12 ((lget p0.f1 x14).f1) true).length)) rfl (fun _ _ h=>lset_own h) ?_
      refine .coe 40 (y':=(Z28 n4 (lset x12 ((lget p0.f1 x14).f1) true).length)) rfl (fun _ _ h=>lset_own h) ?_
      refine .a 1 ?_
      refine .nS [2,5,6,17,18,19] [0,1] ?_
      exact⟨(lset x12 ((lget p0.f1 x14).f1) true),true,rfl,rfl,h⟩
     refine .a 1 ?_
     refine .sH [2,5,6,17,18,19] (H':=[(n3,(.mem (e121 p0))),(Z9 n4 x12)]) (.cons 0 rfl (.cons 0 rfl (.nil _))) ?_
     exact⟨x12,b13,rfl,rfl,h⟩
    rintro _ _ ⟨x18,b19,rfl,rfl,h⟩
    rw[F99_c1.eq_1]at h
    refine .a 3 ?_
    refine .nK [2,5,6,17,18,19] ?_
    exact⟨kq16,Nat.lt_succ_self _,x18,b19,(w64 (x14+(1:Int))),rfl,rfl,by rw[hrec15];exact h⟩
   refine .a 1 ?_
   refine .eK [2,5,6] ?_
   exact⟨kq10,Nat.lt_succ_self _,x12,b13,rfl,rfl,by rw[hrec9];exact h⟩
  refine .a 1 ?_
  refine .eH [5] (H':=[(Z9 n4 x7)]) (.cons 1 rfl (.nil _)) ?_
  exact⟨x7,rfl,rfl,h⟩
 rintro _ _ ⟨x6,rfl,rfl,h⟩
 rw[F99_c0.eq_1]at h
 refine .a 4 ?_
 refine .nK [4] ?_
 refine .freezeS 0 [(4,(.fz 1 (x6.map eBool)))] rfl ⟨fz_all rfl,trivial⟩ ?_
 refine .rK [4] ?_
 have hr:=Option.some.inj h
 subst hr
 exact⟨[(.fz 1 (x6.map eBool))],⟨rfl,rfl,trivial⟩,rfl⟩
def F123_c0 (k:Nat) (x4:(List Int)):Option ByteArray:=
 some ((strOfNums x4))
def F123_c1 (k:Nat) (rec7:((List Int)→Int→Option ByteArray)) (x6:Int) (x10:(List Int)):Option ByteArray:=
 rec7 x10 (w64 (x6+(1:Int)))
def F123_l2 (k:Nat) (p0:(List Bool)):Nat→(List Int)→Int→Option ByteArray
 | 0,_,_=>none
 | j+1,x5,x6=>
   if x6<(p0.length:Int)then if 0≤x6∧x6<(p0.length:Int)then if(lget p0 x6)=true then if 0≤(IntKind.i64.wrap (x6.tdiv (8:Int)))∧(IntKind.i64.wrap (x6.tdiv (8:Int)))<(x5.length:Int)then if 0≤(u64 (x6.tmod (8:Int)))then if 0≤(IntKind.i64.wrap (x6.tdiv (8:Int)))∧(IntKind.i64.wrap (x6.tdiv (8:Int)))<(x5.length:Int)then F123_c1 k (F123_l2 k p0 j) x6 (lset x5 (IntKind.i64.wrap (x6.tdiv (8:Int))) (bits .or .u8 (lget x5 (IntKind.i64.wrap (x6.tdiv (8:Int)))) (IntKind.u8.wrap ((1:Int)*2 ^ (min (u64 (x6.tmod (8:Int))).toNat IntKind.u8.bits)))))
   else none
   else none
   else none
   else F123_c1 k (F123_l2 k p0 j) x6 x5
   else none
   else F123_c0 k x5
def F123 (k:Nat) (p0:(List Bool)):Option ByteArray:=
 if 0≤(IntKind.i64.wrap ((w64 ((p0.length:Int)+(7:Int))).tdiv (8:Int)))∧(IntKind.i64.wrap ((w64 ((p0.length:Int)+(7:Int))).tdiv (8:Int)))*(1:Int)≤140737488355328∧(IntKind.i64.wrap ((w64 ((p0.length:Int)+(7:Int))).tdiv (8:Int)))≤9223372036854775807 then F123_l2 k p0 k (List.replicate (IntKind.i64.wrap ((w64 ((p0.length:Int)+(7:Int))).tdiv (8:Int))).toNat (0:Int)) (0:Int)
 else none
theorem F123_spec {k:Nat} {p0:(List Bool)} {r:ByteArray} (h:F123 k p0=some r):Spec Try.prog 123 [(.fz 1 (p0.map eBool))] (eStr r):=by
 rw[F123.eq_1]at h
 refine Spec.intro (res:=[.tmp 2]) Try.func123 rfl rfl rfl (Nat.le_of_ble_eq_true rfl) ?_
 refine .a 9 ?_
 refine .c (x:=eI64 (IntKind.i64.wrap ((w64 ((p0.length:Int)+(7:Int))).tdiv (8:Int)))) (.quo rfl rfl rfl (by decide)) ?_
 obtain⟨g3,h⟩:=of_guard h
 refine .makeL (f:=eU8) (0:Int) rfl 10 rfl (by decide) rfl rfl rfl Try.underlying102 sz5 by5 zr5 lay5 rfl g3 fun n2=>?_
 refine .a 1 ?_
 refine .nK [0,3] ?_
 refine .seq_mid (fun ρ H=>∃ (x4:(List Int)),ρ=[(3,(.own n2 0 x4.length))]∧H=[(Z32 n2 x4)]∧F123_c0 k x4=some r) ?_ ?_
 ·refine .a 7 ?_
  refine .wK [3,11,12,13] ?_
  refine .loop (fun kq ρ H=>∃ (x5:(List Int)) (x6:Int),ρ=[(3,(.own n2 0 x5.length)),(11,(.fz 1 (p0.map eBool))),(12,(eI64 (p0.length:Int))),(13,(eI64 x6))]∧H=[(Z32 n2 x5)]∧F123_l2 k p0 kq x5 x6=some r) k ⟨(List.replicate (IntKind.i64.wrap ((w64 ((p0.length:Int)+(7:Int))).tdiv (8:Int))).toNat (0:Int)),(0:Int),rfl,rfl,h⟩ ?_
  rintro kq8 _ _ ⟨x5,x6,rfl,rfl,h⟩
  cases kq8 with
  | zero=>rw[F123_l2.eq_1]at h;cases h
  | succ kq8=>
  rw[F123_l2.eq_2]at h
  generalize hrec7:F123_l2 k p0 kq8=rec7 at h
  refine .a 5 ?_
  rcases oi h with⟨c9,h⟩|⟨c9,h⟩
  ·refine .a 1 ?_
   refine .sK [3,11,12,13] ?_
   refine .seq_mid (fun ρ H=>∃ (x10:(List Int)),ρ=[(3,(.own n2 0 x10.length)),(11,(.fz 1 (p0.map eBool))),(12,(eI64 (p0.length:Int))),(13,(eI64 x6))]∧H=[(Z32 n2 x10)]∧F123_c1 k rec7 x6 x10=some r) ?_ ?_
   ·refine .a 4 ?_
    obtain⟨g11,h⟩:=of_guard h
    refine .a 9 ?_
    rcases oi h with⟨c12,h⟩|⟨c12,h⟩
    ·refine .a 4 ?_
     refine .c (x:=eI64 (IntKind.i64.wrap (x6.tdiv (8:Int)))) (.quo rfl rfl rfl (by decide)) ?_
     obtain⟨g13,h⟩:=of_guard h
     refine .c (.idxO 0 rfl rfl rfl rfl g13 Try.underlying102 sz5) ?_
     refine .c (.load 0 rfl rfl rfl (.cast (.lidx (IntKind.i64.wrap (x6.tdiv (8:Int))) g13.1 g13.2 .here) (by omega)) ag5 sz5) ?_
     refine .mv rfl rfl ?_
     refine .c (x:=eI64 (x6.tmod (8:Int))) (.rem rfl rfl rfl (by decide)) ?_
     refine .a 1 ?_
     obtain⟨g14,h⟩:=of_guard h
     refine .c (x:=eU8 (IntKind.u8.wrap ((1:Int)*2 ^ (min (u64 (x6.tmod (8:Int))).toNat IntKind.u8.bits)))) (.shl rfl rfl rfl g14) ?_
     refine .a 1 ?_
     obtain⟨g15,h⟩:=of_guard h
     refine .a 1 ?_
     refine .store 0 rfl rfl rfl rfl rfl rfl (.cast (.lidx (IntKind.i64.wrap (x6.tdiv (8:Int))) (bits .or .u8 (lget x5 (IntKind.i64.wrap (x6.tdiv (8:Int)))) (IntKind.u8.wrap ((1:Int)*2 ^ (min (u64 (x6.tmod (8:Int))).toNat IntKind.u8.bits)))) g15.1 g15.2 .here) (by omega)) rfl rfl sz5 rfl ?_
     refine .coe 3 (y':=(Z28 n2 (lset x5 (IntKind.i64.wrap (x6.tdiv (8:Int))) (bits .or .u8 (lget x5 (IntKind.i64.wrap (x6.tdiv (8:Int)))) (IntKind.u8.wrap ((1:Int)*2 ^ (min (u64 (x6.tmod (8:Int))).toNat IntKind.u8.bits))))).length)) rfl (fun _ _ h=>lset_own h) ?_
     refine .coe 19 (y':=(Z28 n2 (lset x5 (IntKind.i64.wrap (x6.tdiv (8:Int))) (bits .or .u8 (lget x5 (IntKind.i64.wrap (x6.tdiv (8:Int)))) (IntKind.u8.wrap ((1:Int)*2 ^ (min (u64 (x6.tmod (8:Int))).toNat IntKind.u8.bits))))).length)) rfl (fun _ _ h=>lset_own h) ?_
     refine .nK [3,11,12,13] ?_
     exact⟨(lset x5 (IntKind.i64.wrap (x6.tdiv (8:Int))) (bits .or .u8 (lget x5 (IntKind.i64.wrap (x6.tdiv (8:Int)))) (IntKind.u8.wrap ((1:Int)*2 ^ (min (u64 (x6.tmod (8:Int))).toNat IntKind.u8.bits))))),rfl,rfl,h⟩
    refine .a 1 ?_
    refine .sK [3,11,12,13] ?_
    exact⟨x5,rfl,rfl,h⟩
   rintro _ _ ⟨x10,rfl,rfl,h⟩
   rw[F123_c1.eq_1]at h
   refine .a 3 ?_
   refine .nK [3,11,12,13] ?_
   exact⟨kq8,Nat.lt_succ_self _,x10,(w64 (x6+(1:Int))),rfl,rfl,by rw[hrec7];exact h⟩
  refine .a 1 ?_
  refine .eK [3] ?_
  exact⟨x5,rfl,rfl,h⟩
 rintro _ _ ⟨x4,rfl,rfl,h⟩
 rw[F123_c0.eq_1]at h
 refine .a 3 ?_
 refine .c (x:=eStr (strOfNums x4)) (.strO 0 rfl rfl rfl Try.underlying102 Try.underlying9 Try.underlying5) ?_
 refine .a 1 ?_
 refine .nS [2] [] ?_
 refine .rK [2] ?_
 cases h
 exact⟨[(eStr (strOfNums x4))],⟨rfl,rfl,trivial⟩,rfl⟩
def F135 (k:Nat) (p0:(List Int)) (p1:Int):Option Int:=
 if(p0.length:Int)≤p1 then some ((-1:Int))
 else if 0≤p1∧p1<(p0.length:Int)then some ((lget p0 p1))
 else none
theorem F135_spec {k:Nat} {p0:(List Int)} {p1:Int} {r:Int} (h:F135 k p0 p1=some r):Spec Try.prog 135 [(.fz 1 (p0.map eI64)),(eI64 p1)] (eI64 r):=by
 rw[F135.eq_1]at h
 refine Spec.intro (res:=[.tmp 4]) Try.func135 rfl rfl rfl (Nat.le_of_ble_eq_true rfl) ?_
 refine .a 12 ?_
 rcases oi h with⟨c3,h⟩|⟨c3,h⟩
 ·refine .a 4 ?_
  refine .nK [4] ?_
  refine .rK [4] ?_
  cases h
  exact⟨[(eI64 (-1:Int))],⟨rfl,rfl,trivial⟩,rfl⟩
 refine .a 6 ?_
 obtain⟨g4,h⟩:=of_guard h
 refine .a 3 ?_
 refine .nK [4] ?_
 refine .rK [4] ?_
 cases h
 exact⟨[(eI64 (lget p0 p1))],⟨rfl,rfl,trivial⟩,rfl⟩
def F124_c0 (k:Nat) (x3:Int):Option Int:=
 some (x3)
def F124_c1 (k:Nat) (rec6:(Int→Int→Option Int)) (x5:Int) (x9:Int):Option Int:=
 rec6 x9 (w64 (x5+(1:Int)))
def F124_l2 (k:Nat) (p0:S156) (p1:(List Bool)):Nat→Int→Int→Option Int
 | 0,_,_=>none
 | j+1,x4,x5=>
   if x5<(p1.length:Int)then if 0≤x5∧x5<(p1.length:Int)then(F135 k p0.f1 x5).bind fun t11=>
   Option.bind (α:=Bool) (if(lget p1 x5)=true then if(0:Int)≤t11 then if x4<(0:Int)then some (true)
   else some (decide (t11<x4))
   else some (false)
   else some (false)) fun b12=>
   if b12=true then F124_c1 k (F124_l2 k p0 p1 j) x5 t11
   else F124_c1 k (F124_l2 k p0 p1 j) x5 x4
   else none
   else F124_c0 k x4
def F124 (k:Nat) (p0:S156) (p1:(List Bool)):Option Int:=
 F124_l2 k p0 p1 k (-1:Int) (0:Int)
theorem F124_spec {k:Nat} {p0:S156} {p1:(List Bool)} {r:Int} (h:F124 k p0 p1=some r) {q0:Nat} {q0_0:Nat} {q0_1:Nat} {q0_2:Nat} {q0_3:Nat} {T0:Heap}:SpecH Try.prog 124 [(.ptr q0 0),(.fz 1 (p1.map eBool))] ((q0,(.mem (.st [(4,(e121 p0.f0)),(1,(.fz 1 (p0.f1.map eI64))),(1,(.fz 1 (p0.f2.map eU8))),(1,(.mp q0_0)),(1,(.own q0_1 0 p0.f4.length)),(258,(.st [(256,(.ar 1 (p0.f5.f0.toList.map eU8))),(1,(.own q0_2 0 p0.f5.f1.length)),(1,(.own q0_3 0 p0.f5.f2.length))]))])))::(q0_0,(.map (encM Value.string eI64 p0.f3)))::(q0_1,(.mem (.ar 1 (p0.f4.map e98))))::(q0_2,(.mem (.ar 1 (p0.f5.f1.map e35))))::(q0_3,(.mem (.ar 1 (p0.f5.f2.map eI64))))::T0) (fun x H'=>x=eI64 r∧Sub ((q0,(.mem (.st [(4,(e121 p0.f0)),(1,(.fz 1 (p0.f1.map eI64))),(1,(.fz 1 (p0.f2.map eU8))),(1,(.mp q0_0)),(1,(.own q0_1 0 p0.f4.length)),(258,(.st [(256,(.ar 1 (p0.f5.f0.toList.map eU8))),(1,(.own q0_2 0 p0.f5.f1.length)),(1,(.own q0_3 0 p0.f5.f2.length))]))])))::(q0_0,(.map (encM Value.string eI64 p0.f3)))::(q0_1,(.mem (.ar 1 (p0.f4.map e98))))::(q0_2,(.mem (.ar 1 (p0.f5.f1.map e35))))::(q0_3,(.mem (.ar 1 (p0.f5.f2.map eI64))))::T0) H'):=by
 rw[F124.eq_1]at h
 refine SpecH.intro (res:=[.tmp 4]) Try.func124 rfl rfl rfl (Nat.le_of_ble_eq_true rfl) ?_
 refine .a 7 ?_
 refine .nK [0,1,5] ?_
 refine .seq_mid (fun ρ H=>∃ (x3:Int),ρ=[(5,(eI64 x3))]∧H=((Z2 q0 p0.f0 p0.f1 p0.f2 q0_0 q0_1 p0.f4.length (p0.f5.f0.toList.map eU8) q0_2 p0.f5.f1.length q0_3 p0.f5.f2.length)::(q0_0,(.map (encM Value.string eI64 p0.f3)))::(Z12 q0_1 p0.f4)::(Z5 q0_2 p0.f5.f1)::(q0_3,(Z3 p0.f5.f2))::T0)∧F124_c0 k x3=some r) ?_ ?_
 ·refine .a 7 ?_
  refine .wK [0,5,9,10,11] ?_
  refine .loop (fun kq ρ H=>∃ (x4:Int) (x5:Int),ρ=[(0,(.ptr q0 0)),(5,(eI64 x4)),(9,(.fz 1 (p1.map eBool))),(10,(eI64 (p1.length:Int))),(11,(eI64 x5))]∧H=((Z2 q0 p0.f0 p0.f1 p0.f2 q0_0 q0_1 p0.f4.length (p0.f5.f0.toList.map eU8) q0_2 p0.f5.f1.length q0_3 p0.f5.f2.length)::(q0_0,(.map (encM Value.string eI64 p0.f3)))::(Z12 q0_1 p0.f4)::(Z5 q0_2 p0.f5.f1)::(q0_3,(Z3 p0.f5.f2))::T0)∧F124_l2 k p0 p1 kq x4 x5=some r) k ⟨(-1:Int),(0:Int),rfl,rfl,h⟩ ?_
  rintro kq7 _ _ ⟨x4,x5,rfl,rfl,h⟩
  cases kq7 with
  | zero=>rw[F124_l2.eq_1]at h;cases h
  | succ kq7=>
  rw[F124_l2.eq_2]at h
  generalize hrec6:F124_l2 k p0 p1 kq7=rec6 at h
  refine .a 5 ?_
  rcases oi h with⟨c8,h⟩|⟨c8,h⟩
  ·refine .a 1 ?_
   refine .sK [0,5,9,10,11] ?_
   refine .seq_mid (fun ρ H=>∃ (x9:Int),ρ=[(0,(.ptr q0 0)),(5,(eI64 x9)),(9,(.fz 1 (p1.map eBool))),(10,(eI64 (p1.length:Int))),(11,(eI64 x5))]∧H=((Z2 q0 p0.f0 p0.f1 p0.f2 q0_0 q0_1 p0.f4.length (p0.f5.f0.toList.map eU8) q0_2 p0.f5.f1.length q0_3 p0.f5.f2.length)::(q0_0,(.map (encM Value.string eI64 p0.f3)))::(Z12 q0_1 p0.f4)::(Z5 q0_2 p0.f5.f1)::(q0_3,(Z3 p0.f5.f2))::T0)∧F124_c1 k rec6 x5 x9=some r) ?_ ?_
   ·refine .a 4 ?_
    obtain⟨g10,h⟩:=of_guard h
    refine .a 12 ?_
    obtain⟨t11,et11,h⟩:=ob h
    refine .callS [(Z23 p0.f1),(eI64 x5)] (eI64 t11) 21 rfl (by decide) ok135 rfl rfl rfl ⟨rfl,rfl,rfl,rfl,trivial⟩ (F135_spec et11) ?_
    refine .a 3 ?_
    obtain⟨b12,q13,h⟩:=ob h
    refine .regM [(0,(.ptr q0 0)),(5,(eI64 x4)),(8,(eI64 t11)),(9,(.fz 1 (p1.map eBool))),(10,(eI64 (p1.length:Int))),(11,(eI64 x5)),(35,(eBool b12))] ((Z2 q0 p0.f0 p0.f1 p0.f2 q0_0 q0_1 p0.f4.length (p0.f5.f0.toList.map eU8) q0_2 p0.f5.f1.length q0_3 p0.f5.f2.length)::(q0_0,(.map (encM Value.string eI64 p0.f3)))::(Z12 q0_1 p0.f4)::(Z5 q0_2 p0.f5.f1)::(q0_3,(Z3 p0.f5.f2))::T0) ?_ ?_
    ·refine .a 2 ?_
     rcases oi q13 with⟨c14,q13⟩|⟨c14,q13⟩
     ·refine .a 4 ?_
      rcases oi q13 with⟨c15,q13⟩|⟨c15,q13⟩
      ·refine .a 3 ?_
       rcases oi q13 with⟨c16,q13⟩|⟨c16,q13⟩
       ·refine .a 5 ?_
        cases q13
        refine .nilE ⟨rfl,rfl⟩ ?_ ?_
        ·exact⟨rfl,rfl,rfl,rfl,rfl,rfl,rfl,trivial⟩
        exact(.refl _)
       refine .a 5 ?_
       cases q13
       refine .nilE ⟨rfl,rfl⟩ ?_ ?_
       ·exact⟨rfl,rfl,rfl,rfl,rfl,rfl,rfl,trivial⟩
       exact(.refl _)
      refine .a 8 ?_
      cases q13
      refine .nilE ⟨rfl,rfl⟩ ?_ ?_
      ·exact⟨rfl,rfl,rfl,rfl,rfl,rfl,rfl,trivial⟩
      exact(.refl _)
     refine .a 12 ?_
     cases q13
     refine .nilE ⟨rfl,rfl⟩ ?_ ?_
     ·exact⟨rfl,rfl,rfl,rfl,rfl,rfl,rfl,trivial⟩
     exact(.refl _)
    rcases oi h with⟨c17,h⟩|⟨c17,h⟩
    ·refine .a 4 ?_
     refine .nK [0,5,9,10,11] ?_
     exact⟨t11,rfl,rfl,h⟩
    refine .a 1 ?_
    refine .sK [0,5,9,10,11] ?_
    exact⟨x4,rfl,rfl,h⟩
   rintro _ _ ⟨x9,rfl,rfl,h⟩
   rw[F124_c1.eq_1]at h
   refine .a 3 ?_
   refine .nK [0,5,9,10,11] ?_
   exact⟨kq7,Nat.lt_succ_self _,x9,(w64 (x5+(1:Int))),rfl,rfl,by rw[hrec6];exact h⟩
  refine .a 1 ?_
  refine .eK [5] ?_
  exact⟨x4,rfl,rfl,h⟩
 rintro _ _ ⟨x3,rfl,rfl,h⟩
 rw[F124_c0.eq_1]at h
 refine .a 4 ?_
 refine .nK [4] ?_
 refine .rK [4] ?_
 have hr:=Option.some.inj h
 subst hr
 exact⟨[(eI64 x3)],⟨rfl,rfl,trivial⟩,rfl,(.cons 0 rfl (.cons 0 rfl (.cons 0 rfl (.cons 0 rfl (.cons 0 rfl (.refl _))))))⟩
end Go.Avl.T7
namespace Go.Avl.T7
open Go Go.RowKit Go.Proofs Go.Avl
set_option linter.unusedVariables false
set_option maxRecDepth 100000
set_option maxHeartbeats 4000000
set_option linter.unusedSimpArgs false
attribute [local irreducible] AW AO AQ Spec SpecH Calm
def F98_c0 (k:Nat) (p0:S156) (p1:(List Bool)) (b3:Bool):Option (Int×S156):=
 if(!b3)=true then some ((-1:Int),(S156.mk p0.f0 p0.f1 p0.f2 p0.f3 p0.f4 (S55.mk p0.f5.f0 p0.f5.f1 p0.f5.f2)))
 else(F123 k p1).bind fun t5=>
 if((mget p0.f3 t5).isSome)=true then some (((mget p0.f3 t5).getD (0:Int)),(S156.mk p0.f0 p0.f1 p0.f2 p0.f3 p0.f4 (S55.mk p0.f5.f0 p0.f5.f1 p0.f5.f2)))
 else if(p0.f4++([p1]:List (List Bool))).length*24≤140737488355328 then(F124 k (S156.mk p0.f0 p0.f1 p0.f2 (mput p0.f3 t5 (p0.f4.length:Int)) (p0.f4++([p1]:List (List Bool))) (S55.mk p0.f5.f0 p0.f5.f1 p0.f5.f2)) p1).bind fun t10=>
 if(p0.f5.f2++([t10]:List Int)).length*8≤140737488355328 then(some (w64 (((p0.f4++([p1]:List (List Bool))).length:Int) - (1:Int)))).bind fun x15=>
 some (x15,(S156.mk p0.f0 p0.f1 p0.f2 (mput p0.f3 t5 (p0.f4.length:Int)) (p0.f4++([p1]:List (List Bool))) (S55.mk p0.f5.f0 p0.f5.f1 (p0.f5.f2++([t10]:List Int)))))
 else none
 else none
def F98_l1 (k:Nat) (p0:S156) (p1:(List Bool)):Nat→Bool→Int→Option (Int×S156)
 | 0,_,_=>none
 | j+1,b16,x17=>
   if x17<(p1.length:Int)then if 0≤x17∧x17<(p1.length:Int)then Option.bind (α:=Bool) (if b16=true then some (true)
   else some ((lget p1 x17))) fun b22=>
   (F98_l1 k p0 p1 j) b22 (w64 (x17+(1:Int)))
   else none
   else F98_c0 k p0 p1 b16
def F98 (k:Nat) (p0:S156) (p1:(List Bool)):Option (Int×S156):=
 F98_l1 k p0 p1 k false (0:Int)
theorem F98_spec {k:Nat} {p0:S156} {p1:(List Bool)} {r:(Int×S156)} (h:F98 k p0 p1=some r) {q0:Nat} {q0_0:Nat} {q0_1:Nat} {q0_2:Nat} {q0_3:Nat} {T0:Heap}:SpecH Try.prog 98 [(.ptr q0 0),(.fz 1 (p1.map eBool))] ((q0,(.mem (.st [(4,(e121 p0.f0)),(1,(.fz 1 (p0.f1.map eI64))),(1,(.fz 1 (p0.f2.map eU8))),(1,(.mp q0_0)),(1,(.own q0_1 0 p0.f4.length)),(258,(.st [(256,(.ar 1 (p0.f5.f0.toList.map eU8))),(1,(.own q0_2 0 p0.f5.f1.length)),(1,(.own q0_3 0 p0.f5.f2.length))]))])))::(q0_0,(.map (encM Value.string eI64 p0.f3)))::(q0_1,(.mem (.ar 1 (p0.f4.map e98))))::(q0_2,(.mem (.ar 1 (p0.f5.f1.map e35))))::(q0_3,(.mem (.ar 1 (p0.f5.f2.map eI64))))::T0) (fun x H'=>∃ m0_0 m0_1 m0_2 m0_3,x=(eI64 r.1)∧Sub ((q0,(.mem (.st [(4,(e121 r.2.f0)),(1,(.fz 1 (r.2.f1.map eI64))),(1,(.fz 1 (r.2.f2.map eU8))),(1,(.mp m0_0)),(1,(.own m0_1 0 r.2.f4.length)),(258,(.st [(256,(.ar 1 (r.2.f5.f0.toList.map eU8))),(1,(.own m0_2 0 r.2.f5.f1.length)),(1,(.own m0_3 0 r.2.f5.f2.length))]))])))::(m0_0,(.map (encM Value.string eI64 r.2.f3)))::(m0_1,(.mem (.ar 1 (r.2.f4.map e98))))::(m0_2,(.mem (.ar 1 (r.2.f5.f1.map e35))))::(m0_3,(.mem (.ar 1 (r.2.f5.f2.map eI64))))::T0) H'):=by
 rw[F98.eq_1]at h
 refine SpecH.intro (res:=[.tmp 4]) Try.func98 rfl rfl rfl (Nat.le_of_ble_eq_true rfl) ?_
 refine .a 7 ?_
 refine .nK [0,1,5] ?_
 refine .seq_mid (fun ρ H=>∃ (b3:Bool),ρ=[(0,(.ptr q0 0)),(1,(.fz 1 (p1.map eBool))),(5,(eBool b3))]∧H=((Z2 q0 p0.f0 p0.f1 p0.f2 q0_0 q0_1 p0.f4.length (p0.f5.f0.toList.map eU8) q0_2 p0.f5.f1.length q0_3 p0.f5.f2.length)::(q0_0,(.map (encM Value.string eI64 p0.f3)))::(Z12 q0_1 p0.f4)::(Z5 q0_2 p0.f5.f1)::(q0_3,(Z3 p0.f5.f2))::T0)∧F98_c0 k p0 p1 b3=some r) ?_ ?_
 ·refine .a 7 ?_
  refine .wK [0,1,5,11,12,13] ?_
  refine .loop (fun kq ρ H=>∃ (b16:Bool) (x17:Int),ρ=[(0,(.ptr q0 0)),(1,(.fz 1 (p1.map eBool))),(5,(eBool b16)),(11,(.fz 1 (p1.map eBool))),(12,(eI64 (p1.length:Int))),(13,(eI64 x17))]∧H=((Z2 q0 p0.f0 p0.f1 p0.f2 q0_0 q0_1 p0.f4.length (p0.f5.f0.toList.map eU8) q0_2 p0.f5.f1.length q0_3 p0.f5.f2.length)::(q0_0,(.map (encM Value.string eI64 p0.f3)))::(Z12 q0_1 p0.f4)::(Z5 q0_2 p0.f5.f1)::(q0_3,(Z3 p0.f5.f2))::T0)∧F98_l1 k p0 p1 kq b16 x17=some r) k ⟨false,(0:Int),rfl,rfl,h⟩ ?_
  rintro kq19 _ _ ⟨b16,x17,rfl,rfl,h⟩
  cases kq19 with
  | zero=>rw[F98_l1.eq_1]at h;cases h
  | succ kq19=>
  rw[F98_l1.eq_2]at h
  generalize hrec18:F98_l1 k p0 p1 kq19=rec18 at h
  refine .a 5 ?_
  rcases oi h with⟨c20,h⟩|⟨c20,h⟩
  ·refine .a 6 ?_
   obtain⟨g21,h⟩:=of_guard h
   refine .a 4 ?_
   obtain⟨b22,q23,h⟩:=ob h
   refine .regM [(0,(.ptr q0 0)),(1,(.fz 1 (p1.map eBool))),(5,(eBool b22)),(11,(.fz 1 (p1.map eBool))),(12,(eI64 (p1.length:Int))),(13,(eI64 x17))] ((Z2 q0 p0.f0 p0.f1 p0.f2 q0_0 q0_1 p0.f4.length (p0.f5.f0.toList.map eU8) q0_2 p0.f5.f1.length q0_3 p0.f5.f2.length)::(q0_0,(.map (encM Value.string eI64 p0.f3)))::(Z12 q0_1 p0.f4)::(Z5 q0_2 p0.f5.f1)::(q0_3,(Z3 p0.f5.f2))::T0) ?_ ?_
   ·refine .a 2 ?_
    rcases oi q23 with⟨c24,q23⟩|⟨c24,q23⟩
    ·refine .a 3 ?_
     cases q23
     refine .nilE ⟨rfl,rfl⟩ ?_ ?_
     ·exact⟨rfl,rfl,rfl,rfl,rfl,rfl,trivial⟩
     exact(.refl _)
    refine .a 3 ?_
    cases q23
    refine .nilE ⟨rfl,rfl⟩ ?_ ?_
    ·exact⟨rfl,rfl,rfl,rfl,rfl,rfl,trivial⟩
    exact(.refl _)
   refine .a 3 ?_
   refine .nK [0,1,5,11,12,13] ?_
   exact⟨kq19,Nat.lt_succ_self _,b22,(w64 (x17+(1:Int))),rfl,rfl,by rw[hrec18];exact h⟩
  refine .a 1 ?_
  refine .eK [0,1,5] ?_
  exact⟨b16,rfl,rfl,h⟩
 rintro _ _ ⟨b3,rfl,rfl,h⟩
 rw[F98_c0.eq_1]at h
 refine .a 6 ?_
 rcases oi h with⟨c4,h⟩|⟨c4,h⟩
 ·refine .a 4 ?_
  refine .nK [4] ?_
  refine .rK [4] ?_
  cases h
  exact⟨[(eI64 (-1:Int))],⟨rfl,rfl,trivial⟩,q0_0,q0_1,q0_2,q0_3,rfl,(.cons 0 rfl (.cons 0 rfl (.cons 0 rfl (.cons 0 rfl (.cons 0 rfl (.refl _))))))⟩
 refine .a 5 ?_
 obtain⟨t5,et5,h⟩:=ob h
 refine .callS [(.fz 1 (p1.map eBool))] (eStr t5) 25 rfl (by decide) ok123 rfl rfl rfl ⟨rfl,rfl,trivial⟩ (F123_spec et5) ?_
 refine .a 10 ?_
 refine .c (x:=.tup [(eI64 ((mget p0.f3 t5).getD (0:Int))),(eBool ((mget p0.f3 t5).isSome))]) (.look2 (f:=eI64) string_inj string_key (0:Int) 1 rfl rfl rfl rfl Try.underlying109 Try.underlying9 mz3) ?_
 refine .a 10 ?_
 rcases oi h with⟨c6,h⟩|⟨c6,h⟩
 ·refine .a 5 ?_
  refine .nK [4] ?_
  refine .rK [4] ?_
  cases h
  exact⟨[(eI64 ((mget p0.f3 t5).getD (0:Int)))],⟨rfl,rfl,trivial⟩,q0_0,q0_1,q0_2,q0_3,rfl,(.cons 0 rfl (.cons 0 rfl (.cons 0 rfl (.cons 0 rfl (.cons 0 rfl (.refl _))))))⟩
 refine .a 3 ?_
 refine .regEff (by rfl) (by decide+kernel) (fun (σ:Nat→Nat)=>([(.ptr q0 0),(.ptr q0 0),(.ptr q0 6),(.mp q0_0),(eStr t5),(.ptr q0 0),(.ptr q0 0),(.ptr q0 7),(Z28 q0_1 p0.f4.length),(eI64 (p0.f4.length:Int)),(.fl undef)]:List AV)) (fun (L:Nat→Bool) (σ:Nat→Nat)=>((Z2 q0 p0.f0 p0.f1 p0.f2 q0_0 q0_1 p0.f4.length (p0.f5.f0.toList.map eU8) q0_2 p0.f5.f1.length q0_3 p0.f5.f2.length)::(Z12 q0_1 p0.f4)::(Z5 q0_2 p0.f5.f1)::(q0_3,(Z3 p0.f5.f2))::(bif L 10 then((q0_0,(.map (encM Value.string eI64 (mput p0.f3 t5 (p0.f4.length:Int)))))::T0)else((q0_0,(.map (encM Value.string eI64 p0.f3)))::T0)):Heap)) [(0,(.ptr q0 0)),(1,(.fz 1 (p1.map eBool))),(8,(eStr t5))] ⟨rfl,rfl,rfl,trivial⟩ (fun _=>rfl) (fun σ=>(.cons 0 rfl (.cons 1 rfl (.cons 1 rfl (.cons 1 rfl (.cons 0 rfl (.refl _))))))) ⟨?_,?_,?_,?_,?_,?_,?_,?_,?_,?_,?_,trivial⟩ (fun σ=>[(0,(.ptr q0 0)),(1,(.fz 1 (p1.map eBool)))]) (fun σ=>((Z2 q0 p0.f0 p0.f1 p0.f2 q0_0 q0_1 p0.f4.length (p0.f5.f0.toList.map eU8) q0_2 p0.f5.f1.length q0_3 p0.f5.f2.length)::(Z12 q0_1 p0.f4)::(Z5 q0_2 p0.f5.f1)::(q0_3,(Z3 p0.f5.f2))::(q0_0,(.map (encM Value.string eI64 (mput p0.f3 t5 (p0.f4.length:Int)))))::T0)) (fun σ=>⟨rfl,rfl,trivial⟩) (fun σ=>.refl _) (fun σ=>?_)
 ·refine .calm (fun _ _=>rfl) fun L σ hc hi hd=>?_
  refine .a 1 ?_
  exact .nE (d:=37) rfl ⟨⟨37,_,rfl,rfl,rfl⟩,.refl _⟩
 ·refine .calm (fun _ _=>rfl) fun L σ hc hi hd=>?_
  refine .a 1 ?_
  exact .nE (d:=38) rfl ⟨⟨38,_,rfl,rfl,rfl⟩,.refl _⟩
 ·refine .calm (fun _ _=>rfl) fun L σ hc hi hd=>?_
  refine .a 1 ?_
  exact .nE (d:=39) rfl ⟨⟨39,_,rfl,rfl,rfl⟩,.refl _⟩
 ·refine .calm (fun _ _=>rfl) fun L σ hc hi hd=>?_
  refine .a 1 ?_
  exact .nE (d:=40) rfl ⟨⟨40,_,rfl,rfl,rfl⟩,.refl _⟩
 ·refine .calm (fun _ _=>rfl) fun L σ hc hi hd=>?_
  refine .a 1 ?_
  exact .nE (d:=41) rfl ⟨⟨41,_,rfl,rfl,rfl⟩,.refl _⟩
 ·refine .calm (fun _ _=>rfl) fun L σ hc hi hd=>?_
  refine .a 1 ?_
  exact .nE (d:=42) rfl ⟨⟨42,_,rfl,rfl,rfl⟩,.refl _⟩
 ·refine .calm (fun _ _=>rfl) fun L σ hc hi hd=>?_
  refine .a 1 ?_
  exact .nE (d:=43) rfl ⟨⟨43,_,rfl,rfl,rfl⟩,.refl _⟩
 ·refine .calm (fun _ _=>rfl) fun L σ hc hi hd=>?_
  refine .a 1 ?_
  exact .nE (d:=44) rfl ⟨⟨44,_,rfl,rfl,rfl⟩,.refl _⟩
 ·refine .calm (fun _ _=>rfl) fun L σ hc hi hd=>?_
  refine .a 1 ?_
  exact .nE (d:=45) rfl ⟨⟨45,_,rfl,rfl,rfl⟩,.refl _⟩
 ·refine .calm (fun _ _=>rfl) fun L σ hc hi hd=>?_
  refine .a 1 ?_
  exact .nE (d:=46) rfl ⟨⟨46,_,rfl,rfl,rfl⟩,.refl _⟩
 ·intro L σ hc hi hd
  refine .heq (H':=((Z2 q0 p0.f0 p0.f1 p0.f2 q0_0 q0_1 p0.f4.length (p0.f5.f0.toList.map eU8) q0_2 p0.f5.f1.length q0_3 p0.f5.f2.length)::(Z12 q0_1 p0.f4)::(Z5 q0_2 p0.f5.f1)::(q0_3,(Z3 p0.f5.f2))::(q0_0,(.map (encM Value.string eI64 p0.f3)))::T0)) (by first|rfl|simp only[hi,cond_true,cond_false]) ?_
  refine .wK [40,41,46] ?_
  refine .mapPut (f:=eI64) string_inj string_key 4 rfl rfl rfl rfl rfl rfl rfl rfl Try.underlying109 Try.underlying9 ?_
  have a10:addL L 10 10=true:=rfl
  exact .n0 ⟨σ,(fun _ _=>rfl),(fun d' hd'=>by cases hd'),.of_eq (B:=((Z2 q0 p0.f0 p0.f1 p0.f2 q0_0 q0_1 p0.f4.length (p0.f5.f0.toList.map eU8) q0_2 p0.f5.f1.length q0_3 p0.f5.f2.length)::(Z12 q0_1 p0.f4)::(Z5 q0_2 p0.f5.f1)::(q0_3,(Z3 p0.f5.f2))::(q0_0,(.map (encM Value.string eI64 (mput p0.f3 t5 (p0.f4.length:Int)))))::T0)) (by simp only[a10,cond_true,cond_false]) (.refl _)⟩
 refine .nH [0,1] (H':=((Z2 q0 p0.f0 p0.f1 p0.f2 q0_0 q0_1 p0.f4.length (p0.f5.f0.toList.map eU8) q0_2 p0.f5.f1.length q0_3 p0.f5.f2.length)::(q0_0,(.map (encM Value.string eI64 (mput p0.f3 t5 (p0.f4.length:Int)))))::(Z12 q0_1 p0.f4)::(Z5 q0_2 p0.f5.f1)::(q0_3,(Z3 p0.f5.f2))::T0)) (.cons 0 rfl (.cons 3 rfl (.cons 0 rfl (.cons 0 rfl (.cons 0 rfl (.refl _)))))) ?_
 refine .a 8 ?_
 refine .lit (Z:=(.fl (.slice none 0 0))) (xs:=(([p1]:List (List Bool)).map e98)) (qs:=[(0,(.fz 1 (p1.map eBool)))]) rfl 53 rfl (by decide) rfl ⟨rfl,rfl,rfl,trivial⟩ Try.underlying107 sz98 zr98 lay98 rfl (by decide) (litOK (z:=1) [(.fz 1 (p1.map eBool))] rfl ⟨⟨rfl,rfl⟩,trivial⟩) rfl fun n7=>?_
 obtain⟨g9,h⟩:=of_guard h
 refine .appendL (l:=p0.f4) (m:=([p1]:List (List Bool))) 3 54 rfl (by decide) rfl rfl rfl rfl rfl (Src.ownL (f:=e98) (l:=([p1]:List (List Bool))) 0 rfl) Try.underlying107 Try.underlying107 sz98 by98 zr98 rfl g9 (by decide) fun n8=>?_
 refine .a 2 ?_
 refine .store 1 rfl rfl rfl rfl rfl rfl (.cast (.fldS (.fldS (.fldS (.fldS (.fld0 .here))))) rfl) rfl rfl sz107 rfl ?_
 refine .nH [0,1] (H':=((Z2 q0 p0.f0 p0.f1 p0.f2 q0_0 n8 (p0.f4++([p1]:List (List Bool))).length (p0.f5.f0.toList.map eU8) q0_2 p0.f5.f1.length q0_3 p0.f5.f2.length)::(q0_0,(.map (encM Value.string eI64 (mput p0.f3 t5 (p0.f4.length:Int)))))::(Z12 n8 (p0.f4++([p1]:List (List Bool))))::(Z5 q0_2 p0.f5.f1)::(q0_3,(Z3 p0.f5.f2))::T0)) (.cons 1 rfl (.cons 1 rfl (.cons 1 rfl (.cons 1 rfl (.cons 1 rfl (.drop (.refl _))))))) ?_
 refine .seq ?_
 obtain⟨t10,et10,h⟩:=ob h
 obtain⟨g14,h⟩:=of_guard h
 refine .regEff (by rfl) (by decide+kernel) (fun (σ:Nat→Nat)=>([(.ptr q0 0),(.ptr q0 0),(.ptr q0 0),(.ptr q0 8),(.ptr q0 265),(Z28 q0_3 p0.f5.f2.length),(.ptr q0 0),(.fz 1 (p1.map eBool)),(eI64 t10),(Z23 ([t10]:List Int)),(Z28 (σ 10) (p0.f5.f2++([t10]:List Int)).length),(.ptr q0 0),(.ptr q0 8),(.ptr q0 265),(.fl undef)]:List AV)) (fun (L:Nat→Bool) (σ:Nat→Nat)=>((q0_0,(.map (encM Value.string eI64 (mput p0.f3 t5 (p0.f4.length:Int)))))::(Z12 n8 (p0.f4++([p1]:List (List Bool))))::(Z5 q0_2 p0.f5.f1)::(bif L 10 then(bif L 14 then((Z2 q0 p0.f0 p0.f1 p0.f2 q0_0 n8 (p0.f4++([p1]:List (List Bool))).length (p0.f5.f0.toList.map eU8) q0_2 p0.f5.f1.length (σ 10) (p0.f5.f2++([t10]:List Int)).length)::((σ 10),(Z3 (p0.f5.f2++([t10]:List Int))))::T0)else((Z2 q0 p0.f0 p0.f1 p0.f2 q0_0 n8 (p0.f4++([p1]:List (List Bool))).length (p0.f5.f0.toList.map eU8) q0_2 p0.f5.f1.length q0_3 p0.f5.f2.length)::((σ 10),(Z3 (p0.f5.f2++([t10]:List Int))))::T0))else((Z2 q0 p0.f0 p0.f1 p0.f2 q0_0 n8 (p0.f4++([p1]:List (List Bool))).length (p0.f5.f0.toList.map eU8) q0_2 p0.f5.f1.length q0_3 p0.f5.f2.length)::(q0_3,(Z3 p0.f5.f2))::T0)):Heap)) [(0,(.ptr q0 0)),(1,(.fz 1 (p1.map eBool)))] ⟨rfl,rfl,trivial⟩ (fun _=>rfl) (fun σ=>(.cons 1 rfl (.cons 1 rfl (.cons 1 rfl (.cons 0 rfl (.cons 0 rfl (.refl _))))))) ⟨?_,?_,?_,?_,?_,?_,?_,?_,?_,?_,?_,?_,?_,?_,?_,trivial⟩ (fun σ=>[(0,(.ptr q0 0))]) (fun σ=>((q0_0,(.map (encM Value.string eI64 (mput p0.f3 t5 (p0.f4.length:Int)))))::(Z12 n8 (p0.f4++([p1]:List (List Bool))))::(Z5 q0_2 p0.f5.f1)::(Z2 q0 p0.f0 p0.f1 p0.f2 q0_0 n8 (p0.f4++([p1]:List (List Bool))).length (p0.f5.f0.toList.map eU8) q0_2 p0.f5.f1.length (σ 10) (p0.f5.f2++([t10]:List Int)).length)::((σ 10),(Z3 (p0.f5.f2++([t10]:List Int))))::T0)) (fun σ=>⟨rfl,trivial⟩) (fun σ=>.refl _) (fun σ=>?_)
 ·refine .calm (fun _ _=>rfl) fun L σ hc hi hd=>?_
  have m14:L 14=false:=hc.neg (i:=0) (j:=14) rfl (by rfl) hi
  cases b10:L 10 with
  | true=>
    refine .heq (H':=((q0_0,(.map (encM Value.string eI64 (mput p0.f3 t5 (p0.f4.length:Int)))))::(Z12 n8 (p0.f4++([p1]:List (List Bool))))::(Z5 q0_2 p0.f5.f1)::(Z2 q0 p0.f0 p0.f1 p0.f2 q0_0 n8 (p0.f4++([p1]:List (List Bool))).length (p0.f5.f0.toList.map eU8) q0_2 p0.f5.f1.length q0_3 p0.f5.f2.length)::((σ 10),(Z3 (p0.f5.f2++([t10]:List Int))))::T0)) (by first|rfl|simp only[b10,m14,cond_true,cond_false]) ?_
    refine .a 1 ?_
    exact .nE (d:=57) rfl ⟨⟨57,_,rfl,rfl,rfl⟩,.of_eq (by first|rfl|simp only[b10,m14,cond_true,cond_false]) (.refl _)⟩
  | false=>
    refine .heq (H':=((q0_0,(.map (encM Value.string eI64 (mput p0.f3 t5 (p0.f4.length:Int)))))::(Z12 n8 (p0.f4++([p1]:List (List Bool))))::(Z5 q0_2 p0.f5.f1)::(Z2 q0 p0.f0 p0.f1 p0.f2 q0_0 n8 (p0.f4++([p1]:List (List Bool))).length (p0.f5.f0.toList.map eU8) q0_2 p0.f5.f1.length q0_3 p0.f5.f2.length)::(q0_3,(Z3 p0.f5.f2))::T0)) (by first|rfl|simp only[b10,m14,cond_true,cond_false]) ?_
    refine .a 1 ?_
    exact .nE (d:=57) rfl ⟨⟨57,_,rfl,rfl,rfl⟩,.of_eq (by first|rfl|simp only[b10,m14,cond_true,cond_false]) (.refl _)⟩
 ·refine .calm (fun _ _=>rfl) fun L σ hc hi hd=>?_
  have m2:L 2=false:=hc.neg (i:=1) (j:=2) rfl (by rfl) hi
  have m3:L 3=false:=hc.neg (i:=2) (j:=3) rfl (by rfl) m2
  have m4:L 4=false:=hc.neg (i:=3) (j:=4) rfl (by rfl) m3
  have m5:L 5=false:=hc.neg (i:=4) (j:=5) rfl (by rfl) m4
  have m10:L 10=false:=hc.neg (i:=5) (j:=10) rfl (by rfl) m5
  have m14:L 14=false:=hc.neg (i:=1) (j:=14) rfl (by rfl) hi
  refine .heq (H':=((q0_0,(.map (encM Value.string eI64 (mput p0.f3 t5 (p0.f4.length:Int)))))::(Z12 n8 (p0.f4++([p1]:List (List Bool))))::(Z5 q0_2 p0.f5.f1)::(Z2 q0 p0.f0 p0.f1 p0.f2 q0_0 n8 (p0.f4++([p1]:List (List Bool))).length (p0.f5.f0.toList.map eU8) q0_2 p0.f5.f1.length q0_3 p0.f5.f2.length)::(q0_3,(Z3 p0.f5.f2))::T0)) (by first|rfl|simp only[m10,m14,cond_true,cond_false]) ?_
  refine .a 1 ?_
  exact .nE (d:=58) rfl ⟨⟨58,_,rfl,rfl,rfl⟩,.of_eq (by first|rfl|simp only[m10,m14,cond_true,cond_false]) (.refl _)⟩
 ·refine .calm (fun _ _=>rfl) fun L σ hc hi hd=>?_
  have m3:L 3=false:=hc.neg (i:=2) (j:=3) rfl (by rfl) hi
  have m4:L 4=false:=hc.neg (i:=3) (j:=4) rfl (by rfl) m3
  have m5:L 5=false:=hc.neg (i:=4) (j:=5) rfl (by rfl) m4
  have m10:L 10=false:=hc.neg (i:=5) (j:=10) rfl (by rfl) m5
  have m14:L 14=false:=hc.neg (i:=2) (j:=14) rfl (by rfl) hi
  refine .heq (H':=((q0_0,(.map (encM Value.string eI64 (mput p0.f3 t5 (p0.f4.length:Int)))))::(Z12 n8 (p0.f4++([p1]:List (List Bool))))::(Z5 q0_2 p0.f5.f1)::(Z2 q0 p0.f0 p0.f1 p0.f2 q0_0 n8 (p0.f4++([p1]:List (List Bool))).length (p0.f5.f0.toList.map eU8) q0_2 p0.f5.f1.length q0_3 p0.f5.f2.length)::(q0_3,(Z3 p0.f5.f2))::T0)) (by first|rfl|simp only[m10,m14,cond_true,cond_false]) ?_
  refine .a 1 ?_
  exact .nE (d:=59) rfl ⟨⟨59,_,rfl,rfl,rfl⟩,.of_eq (by first|rfl|simp only[m10,m14,cond_true,cond_false]) (.refl _)⟩
 ·refine .calm (fun _ _=>rfl) fun L σ hc hi hd=>?_
  have m4:L 4=false:=hc.neg (i:=3) (j:=4) rfl (by rfl) hi
  have m5:L 5=false:=hc.neg (i:=4) (j:=5) rfl (by rfl) m4
  have m10:L 10=false:=hc.neg (i:=5) (j:=10) rfl (by rfl) m5
  have m14:L 14=false:=hc.neg (i:=3) (j:=14) rfl (by rfl) hi
  refine .heq (H':=((q0_0,(.map (encM Value.string eI64 (mput p0.f3 t5 (p0.f4.length:Int)))))::(Z12 n8 (p0.f4++([p1]:List (List Bool))))::(Z5 q0_2 p0.f5.f1)::(Z2 q0 p0.f0 p0.f1 p0.f2 q0_0 n8 (p0.f4++([p1]:List (List Bool))).length (p0.f5.f0.toList.map eU8) q0_2 p0.f5.f1.length q0_3 p0.f5.f2.length)::(q0_3,(Z3 p0.f5.f2))::T0)) (by first|rfl|simp only[m10,m14,cond_true,cond_false]) ?_
  refine .a 1 ?_
  exact .nE (d:=60) rfl ⟨⟨60,_,rfl,rfl,rfl⟩,.of_eq (by first|rfl|simp only[m10,m14,cond_true,cond_false]) (.refl _)⟩
 ·refine .calm (fun _ _=>rfl) fun L σ hc hi hd=>?_
  have m5:L 5=false:=hc.neg (i:=4) (j:=5) rfl (by rfl) hi
  have m10:L 10=false:=hc.neg (i:=5) (j:=10) rfl (by rfl) m5
  have m14:L 14=false:=hc.neg (i:=4) (j:=14) rfl (by rfl) hi
  refine .heq (H':=((q0_0,(.map (encM Value.string eI64 (mput p0.f3 t5 (p0.f4.length:Int)))))::(Z12 n8 (p0.f4++([p1]:List (List Bool))))::(Z5 q0_2 p0.f5.f1)::(Z2 q0 p0.f0 p0.f1 p0.f2 q0_0 n8 (p0.f4++([p1]:List (List Bool))).length (p0.f5.f0.toList.map eU8) q0_2 p0.f5.f1.length q0_3 p0.f5.f2.length)::(q0_3,(Z3 p0.f5.f2))::T0)) (by first|rfl|simp only[m10,m14,cond_true,cond_false]) ?_
  refine .a 1 ?_
  exact .nE (d:=61) rfl ⟨⟨61,_,rfl,rfl,rfl⟩,.of_eq (by first|rfl|simp only[m10,m14,cond_true,cond_false]) (.refl _)⟩
 ·refine .calm (fun _ _=>rfl) fun L σ hc hi hd=>?_
  have m10:L 10=false:=hc.neg (i:=5) (j:=10) rfl (by rfl) hi
  have m14:L 14=false:=hc.neg (i:=5) (j:=14) rfl (by rfl) hi
  refine .heq (H':=((q0_0,(.map (encM Value.string eI64 (mput p0.f3 t5 (p0.f4.length:Int)))))::(Z12 n8 (p0.f4++([p1]:List (List Bool))))::(Z5 q0_2 p0.f5.f1)::(Z2 q0 p0.f0 p0.f1 p0.f2 q0_0 n8 (p0.f4++([p1]:List (List Bool))).length (p0.f5.f0.toList.map eU8) q0_2 p0.f5.f1.length q0_3 p0.f5.f2.length)::(q0_3,(Z3 p0.f5.f2))::T0)) (by first|rfl|simp only[m10,m14,cond_true,cond_false]) ?_
  refine .a 1 ?_
  exact .nE (d:=62) rfl ⟨⟨62,_,rfl,rfl,rfl⟩,.of_eq (by first|rfl|simp only[m10,m14,cond_true,cond_false]) (.refl _)⟩
 ·refine .calm (fun _ _=>rfl) fun L σ hc hi hd=>?_
  have m8:L 8=false:=hc.neg (i:=6) (j:=8) rfl (by rfl) hi
  have m10:L 10=false:=hc.neg (i:=8) (j:=10) rfl (by rfl) m8
  have m14:L 14=false:=hc.neg (i:=6) (j:=14) rfl (by rfl) hi
  refine .heq (H':=((q0_0,(.map (encM Value.string eI64 (mput p0.f3 t5 (p0.f4.length:Int)))))::(Z12 n8 (p0.f4++([p1]:List (List Bool))))::(Z5 q0_2 p0.f5.f1)::(Z2 q0 p0.f0 p0.f1 p0.f2 q0_0 n8 (p0.f4++([p1]:List (List Bool))).length (p0.f5.f0.toList.map eU8) q0_2 p0.f5.f1.length q0_3 p0.f5.f2.length)::(q0_3,(Z3 p0.f5.f2))::T0)) (by first|rfl|simp only[m10,m14,cond_true,cond_false]) ?_
  refine .a 1 ?_
  exact .nE (d:=63) rfl ⟨⟨63,_,rfl,rfl,rfl⟩,.of_eq (by first|rfl|simp only[m10,m14,cond_true,cond_false]) (.refl _)⟩
 ·refine .calm (fun _ _=>rfl) fun L σ hc hi hd=>?_
  refine .a 1 ?_
  exact .nE (d:=64) rfl ⟨⟨64,_,rfl,rfl,rfl⟩,.refl _⟩
 ·refine .calm (fun _ _=>rfl) fun L σ hc hi hd=>?_
  have m10:L 10=false:=hc.neg (i:=8) (j:=10) rfl (by rfl) hi
  have m14:L 14=false:=hc.neg (i:=8) (j:=14) rfl (by rfl) hi
  refine .heq (H':=((q0_0,(.map (encM Value.string eI64 (mput p0.f3 t5 (p0.f4.length:Int)))))::(Z12 n8 (p0.f4++([p1]:List (List Bool))))::(Z5 q0_2 p0.f5.f1)::(Z2 q0 p0.f0 p0.f1 p0.f2 q0_0 n8 (p0.f4++([p1]:List (List Bool))).length (p0.f5.f0.toList.map eU8) q0_2 p0.f5.f1.length q0_3 p0.f5.f2.length)::(q0_3,(Z3 p0.f5.f2))::T0)) (by first|rfl|simp only[m10,m14,cond_true,cond_false]) ?_
  refine .wK [63,64] ?_
  refine .callH [(.ptr q0 0),(.fz 1 (p1.map eBool))] ((Z2 q0 p0.f0 p0.f1 p0.f2 q0_0 n8 (p0.f4++([p1]:List (List Bool))).length (p0.f5.f0.toList.map eU8) q0_2 p0.f5.f1.length q0_3 p0.f5.f2.length)::(q0_0,(.map (encM Value.string eI64 (mput p0.f3 t5 (p0.f4.length:Int)))))::(Z12 n8 (p0.f4++([p1]:List (List Bool))))::(Z5 q0_2 p0.f5.f1)::(q0_3,(Z3 p0.f5.f2))::T0) _ rfl rfl rfl 65 rfl (by decide) ok124 ⟨rfl,rfl,rfl,rfl,trivial⟩ (.cons 3 rfl (.cons 0 rfl (.cons 0 rfl (.cons 0 rfl (.cons 0 rfl (.refl _)))))) (F124_spec et10) ?_
  rintro _ _ ⟨rfl,hs11⟩
  refine .wH [63,64,65] hs11 ?_
  refine .wH [63,64,65] (H':=((q0_0,(.map (encM Value.string eI64 (mput p0.f3 t5 (p0.f4.length:Int)))))::(Z12 n8 (p0.f4++([p1]:List (List Bool))))::(Z5 q0_2 p0.f5.f1)::(Z2 q0 p0.f0 p0.f1 p0.f2 q0_0 n8 (p0.f4++([p1]:List (List Bool))).length (p0.f5.f0.toList.map eU8) q0_2 p0.f5.f1.length q0_3 p0.f5.f2.length)::(q0_3,(Z3 p0.f5.f2))::T0)) (.cons 1 rfl (.cons 1 rfl (.cons 1 rfl (.cons 0 rfl (.cons 0 rfl (.refl _)))))) ?_
  exact .nE (d:=65) rfl ⟨⟨65,_,rfl,rfl,rfl⟩,.of_eq (by first|rfl|simp only[m10,m14,cond_true,cond_false]) (.refl _)⟩
 ·refine .calm (fun _ _=>rfl) fun L σ hc hi hd=>?_
  refine .wK [65] ?_
  refine .lit (Z:=(eI64 (0:Int))) (xs:=(([t10]:List Int).map eI64)) (qs:=[(0,(eI64 t10))]) rfl 66 rfl (by decide) rfl ⟨rfl,rfl,rfl,trivial⟩ Try.underlying35 sz3 zr3 lay3 rfl (by decide) (litOK (z:=1) [(eI64 t10)] rfl ⟨⟨rfl,rfl⟩,trivial⟩) rfl fun n12=>?_
  refine .freezeS 0 [(66,(Z23 ([t10]:List Int)))] rfl ⟨fz_all rfl,trivial⟩ ?_
  exact .nE (d:=66) rfl ⟨⟨66,_,rfl,rfl,rfl⟩,.refl _⟩
 ·intro L σ hc hi hd
  have m14:L 14=false:=hc.neg (i:=10) (j:=14) rfl (by rfl) hi
  refine .heq (H':=((q0_0,(.map (encM Value.string eI64 (mput p0.f3 t5 (p0.f4.length:Int)))))::(Z12 n8 (p0.f4++([p1]:List (List Bool))))::(Z5 q0_2 p0.f5.f1)::(Z2 q0 p0.f0 p0.f1 p0.f2 q0_0 n8 (p0.f4++([p1]:List (List Bool))).length (p0.f5.f0.toList.map eU8) q0_2 p0.f5.f1.length q0_3 p0.f5.f2.length)::(q0_3,(Z3 p0.f5.f2))::T0)) (by first|rfl|simp only[hi,m14,cond_true,cond_false]) ?_
  refine .wK [62,66] ?_
  refine .appendL (l:=p0.f5.f2) (m:=([t10]:List Int)) 4 67 rfl (by decide) rfl rfl rfl rfl rfl Src.fz Try.underlying35 Try.underlying35 sz3 by3 zr3 rfl g14 (by decide) fun n13=>?_
  have a10:addL L 10 10=true:=rfl
  have a14:addL L 10 14=false:=m14
  have u10:upd σ 10 n13 10=n13:=rfl
  exact .nE (d:=67) rfl ⟨(upd σ 10 n13),(fun j hj=>match j,hj with |0,_=>rfl|1,_=>rfl|2,_=>rfl|3,_=>rfl|4,_=>rfl|5,_=>rfl|6,_=>rfl|7,_=>rfl|8,_=>rfl|9,_=>rfl|10,hj=>Bool.noConfusion (hj.symm.trans hi)|11,_=>rfl|12,_=>rfl|13,_=>rfl|14,_=>rfl|_+15,_=>rfl),(fun d' hd'=>⟨_,rfl,by cases hd';rfl⟩),.of_eq (B:=((q0_0,(.map (encM Value.string eI64 (mput p0.f3 t5 (p0.f4.length:Int)))))::(Z12 n8 (p0.f4++([p1]:List (List Bool))))::(Z5 q0_2 p0.f5.f1)::(Z2 q0 p0.f0 p0.f1 p0.f2 q0_0 n8 (p0.f4++([p1]:List (List Bool))).length (p0.f5.f0.toList.map eU8) q0_2 p0.f5.f1.length q0_3 p0.f5.f2.length)::(n13,(Z3 (p0.f5.f2++([t10]:List Int))))::T0)) (by simp only[a10,a14,u10,cond_true,cond_false]) (.refl _)⟩
 ·refine .calm (fun _ _=>rfl) fun L σ hc hi hd=>?_
  have y10:L 10=true:=on_get hd (i:=10) (by rfl)
  have m12:L 12=false:=hc.neg (i:=11) (j:=12) rfl (by rfl) hi
  have m13:L 13=false:=hc.neg (i:=12) (j:=13) rfl (by rfl) m12
  have m14:L 14=false:=hc.neg (i:=13) (j:=14) rfl (by rfl) m13
  refine .heq (H':=((q0_0,(.map (encM Value.string eI64 (mput p0.f3 t5 (p0.f4.length:Int)))))::(Z12 n8 (p0.f4++([p1]:List (List Bool))))::(Z5 q0_2 p0.f5.f1)::(Z2 q0 p0.f0 p0.f1 p0.f2 q0_0 n8 (p0.f4++([p1]:List (List Bool))).length (p0.f5.f0.toList.map eU8) q0_2 p0.f5.f1.length q0_3 p0.f5.f2.length)::((σ 10),(Z3 (p0.f5.f2++([t10]:List Int))))::T0)) (by first|rfl|simp only[y10,m14,cond_true,cond_false]) ?_
  refine .a 1 ?_
  exact .nE (d:=68) rfl ⟨⟨68,_,rfl,rfl,rfl⟩,.of_eq (by first|rfl|simp only[y10,m14,cond_true,cond_false]) (.refl _)⟩
 ·refine .calm (fun _ _=>rfl) fun L σ hc hi hd=>?_
  have y10:L 10=true:=on_get hd (i:=10) (by rfl)
  have m13:L 13=false:=hc.neg (i:=12) (j:=13) rfl (by rfl) hi
  have m14:L 14=false:=hc.neg (i:=13) (j:=14) rfl (by rfl) m13
  refine .heq (H':=((q0_0,(.map (encM Value.string eI64 (mput p0.f3 t5 (p0.f4.length:Int)))))::(Z12 n8 (p0.f4++([p1]:List (List Bool))))::(Z5 q0_2 p0.f5.f1)::(Z2 q0 p0.f0 p0.f1 p0.f2 q0_0 n8 (p0.f4++([p1]:List (List Bool))).length (p0.f5.f0.toList.map eU8) q0_2 p0.f5.f1.length q0_3 p0.f5.f2.length)::((σ 10),(Z3 (p0.f5.f2++([t10]:List Int))))::T0)) (by first|rfl|simp only[y10,m14,cond_true,cond_false]) ?_
  refine .a 1 ?_
  exact .nE (d:=69) rfl ⟨⟨69,_,rfl,rfl,rfl⟩,.of_eq (by first|rfl|simp only[y10,m14,cond_true,cond_false]) (.refl _)⟩
 ·refine .calm (fun _ _=>rfl) fun L σ hc hi hd=>?_
  have y10:L 10=true:=on_get hd (i:=10) (by rfl)
  have m14:L 14=false:=hc.neg (i:=13) (j:=14) rfl (by rfl) hi
  refine .heq (H':=((q0_0,(.map (encM Value.string eI64 (mput p0.f3 t5 (p0.f4.length:Int)))))::(Z12 n8 (p0.f4++([p1]:List (List Bool))))::(Z5 q0_2 p0.f5.f1)::(Z2 q0 p0.f0 p0.f1 p0.f2 q0_0 n8 (p0.f4++([p1]:List (List Bool))).length (p0.f5.f0.toList.map eU8) q0_2 p0.f5.f1.length q0_3 p0.f5.f2.length)::((σ 10),(Z3 (p0.f5.f2++([t10]:List Int))))::T0)) (by first|rfl|simp only[y10,m14,cond_true,cond_false]) ?_
  refine .a 1 ?_
  exact .nE (d:=70) rfl ⟨⟨70,_,rfl,rfl,rfl⟩,.of_eq (by first|rfl|simp only[y10,m14,cond_true,cond_false]) (.refl _)⟩
 ·intro L σ hc hi hd
  have y10:L 10=true:=on_get hd (i:=10) (by rfl)
  refine .heq (H':=((q0_0,(.map (encM Value.string eI64 (mput p0.f3 t5 (p0.f4.length:Int)))))::(Z12 n8 (p0.f4++([p1]:List (List Bool))))::(Z5 q0_2 p0.f5.f1)::(Z2 q0 p0.f0 p0.f1 p0.f2 q0_0 n8 (p0.f4++([p1]:List (List Bool))).length (p0.f5.f0.toList.map eU8) q0_2 p0.f5.f1.length q0_3 p0.f5.f2.length)::((σ 10),(Z3 (p0.f5.f2++([t10]:List Int))))::T0)) (by first|rfl|simp only[hi,y10,cond_true,cond_false]) ?_
  refine .wK [67,70] ?_
  refine .store 3 rfl rfl rfl rfl rfl rfl (.cast (.fldS (.fldS (.fldS (.fldS (.fldS (.fld0 (.fldS (.fldS (.fld0 .here))))))))) rfl) rfl rfl sz35 rfl ?_
  have a10:addL L 14 10=true:=y10
  have a14:addL L 14 14=true:=rfl
  exact .n0 ⟨σ,(fun _ _=>rfl),(fun d' hd'=>by cases hd'),.of_eq (B:=((q0_0,(.map (encM Value.string eI64 (mput p0.f3 t5 (p0.f4.length:Int)))))::(Z12 n8 (p0.f4++([p1]:List (List Bool))))::(Z5 q0_2 p0.f5.f1)::(Z2 q0 p0.f0 p0.f1 p0.f2 q0_0 n8 (p0.f4++([p1]:List (List Bool))).length (p0.f5.f0.toList.map eU8) q0_2 p0.f5.f1.length (σ 10) (p0.f5.f2++([t10]:List Int)).length)::((σ 10),(Z3 (p0.f5.f2++([t10]:List Int))))::T0)) (by simp only[a10,a14,cond_true,cond_false]) (.refl _)⟩
 generalize σ 10=n13
 refine .nH [0] (H':=((Z2 q0 p0.f0 p0.f1 p0.f2 q0_0 n8 (p0.f4++([p1]:List (List Bool))).length (p0.f5.f0.toList.map eU8) q0_2 p0.f5.f1.length n13 (p0.f5.f2++([t10]:List Int)).length)::(q0_0,(.map (encM Value.string eI64 (mput p0.f3 t5 (p0.f4.length:Int)))))::(Z12 n8 (p0.f4++([p1]:List (List Bool))))::(Z5 q0_2 p0.f5.f1)::(n13,(Z3 (p0.f5.f2++([t10]:List Int))))::T0)) (.cons 3 rfl (.cons 0 rfl (.cons 0 rfl (.cons 0 rfl (.cons 0 rfl (.refl _)))))) ?_
 refine .a 8 ?_
 obtain⟨x15,ex15,h⟩:=ob h
 refine .c (.assign rfl (congrArg (fun x=>some (eI64 x)) (Option.some.inj ex15))) ?_
 refine .nK [4] ?_
 refine .rK [4] ?_
 have hr:=Option.some.inj h
 subst hr
 exact⟨[(eI64 x15)],⟨rfl,rfl,trivial⟩,q0_0,n8,q0_2,n13,rfl,(.cons 0 rfl (.cons 0 rfl (.cons 0 rfl (.cons 0 rfl (.cons 0 rfl (.refl _))))))⟩
end Go.Avl.T7
namespace Go.Avl.T7
open Go Go.RowKit Go.Proofs Go.Avl
set_option linter.unusedVariables false
set_option maxRecDepth 100000
set_option maxHeartbeats 4000000
attribute [local irreducible] AW AO AQ Spec SpecH Calm
def F100_c0 (k:Nat) (x7:(List Bool)):Option (List Bool):=
 some (x7)
def F100_c1 (k:Nat) (rec10:((List Bool)→Int→Option (List Bool))) (x9:Int) (x13:(List Bool)):Option (List Bool):=
 rec10 x13 (w64 (x9+(1:Int)))
def F100_l2 (k:Nat) (p0:S121) (p1:(List Bool)) (p2:Int):Nat→(List Bool)→Int→Option (List Bool)
 | 0,_,_=>none
 | j+1,x8,x9=>
   if x9<(p0.f1.length:Int)then if 0≤x9∧x9<(p0.f1.length:Int)then Option.bind (α:=Bool) (if(!((lget p0.f1 x9).f3))=true then if((lget p0.f1 x9).f0)<(p1.length:Int)then if 0≤((lget p0.f1 x9).f0)∧((lget p0.f1 x9).f0)<(p1.length:Int)then if(lget p1 ((lget p0.f1 x9).f0))=true then(F125 k ((lget p0.f1 x9).f2) p2).bind fun t22=>
   some (t22)
   else some (false)
   else none
   else some (false)
   else some (false)) fun b16=>
   if b16=true then if 0≤((lget p0.f1 x9).f1)∧((lget p0.f1 x9).f1)<(x8.length:Int)then F100_c1 k (F100_l2 k p0 p1 p2 j) x9 (lset x8 ((lget p0.f1 x9).f1) true)
   else none
   else F100_c1 k (F100_l2 k p0 p1 p2 j) x9 x8
   else none
   else F100_c0 k x8
def F100 (k:Nat) (p0:S121) (p1:(List Bool)) (p2:Int):Option (List Bool):=
 if 0≤p0.f0∧p0.f0*(1:Int)≤140737488355328∧p0.f0≤9223372036854775807 then F100_l2 k p0 p1 p2 k (List.replicate p0.f0.toNat false) (0:Int)
 else none
theorem F100_spec {k:Nat} {p0:S121} {p1:(List Bool)} {p2:Int} {r:(List Bool)} (h:F100 k p0 p1 p2=some r):Spec Try.prog 100 [(e121 p0),(.fz 1 (p1.map eBool)),(eU8 p2)] (e98 r):=by
 rw[F100.eq_1]at h
 refine Spec.intro (res:=[.tmp 6]) Try.func100 rfl rfl rfl (Nat.le_of_ble_eq_true rfl) ?_
 refine .sr ?_
 refine .box rfl 3 rfl (by decide) rfl rfl rfl fun n4=>?_
 refine .a 6 ?_
 obtain⟨g6,h⟩:=of_guard h
 refine .makeL (f:=eBool) false rfl 12 rfl (by decide) rfl rfl rfl Try.underlying98 sz4 by4 zr4 lay4 rfl g6 fun n5=>?_
 refine .a 1 ?_
 refine .nS [1,2,3,7] [1,0] ?_
 refine .seq_mid (fun ρ H=>∃ (x7:(List Bool)),ρ=[(7,(.own n5 0 x7.length))]∧H=[(Z9 n5 x7)]∧F100_c0 k x7=some r) ?_ ?_
 ·refine .a 6 ?_
  refine .nS [1,2,7,14,15,16] [1] ?_
  refine .a 1 ?_
  refine .wK [1,2,7,14,15,16] ?_
  refine .loop (fun kq ρ H=>∃ (x8:(List Bool)) (x9:Int),ρ=[(1,(.fz 1 (p1.map eBool))),(2,(eU8 p2)),(7,(.own n5 0 x8.length)),(14,(.fz 7 (p0.f1.map e152))),(15,(eI64 (p0.f1.length:Int))),(16,(eI64 x9))]∧H=[(Z9 n5 x8)]∧F100_l2 k p0 p1 p2 kq x8 x9=some r) k ⟨(List.replicate p0.f0.toNat false),(0:Int),rfl,rfl,h⟩ ?_
  rintro kq11 _ _ ⟨x8,x9,rfl,rfl,h⟩
  cases kq11 with
  | zero=>rw[F100_l2.eq_1]at h;cases h
  | succ kq11=>
  rw[F100_l2.eq_2]at h
  generalize hrec10:F100_l2 k p0 p1 p2 kq11=rec10 at h
  refine .a 5 ?_
  rcases oi h with⟨c12,h⟩|⟨c12,h⟩
  ·refine .a 1 ?_
   refine .sK [1,2,7,14,15,16] ?_
   refine .seq_mid (fun ρ H=>∃ (x13:(List Bool)),ρ=[(1,(.fz 1 (p1.map eBool))),(2,(eU8 p2)),(7,(.own n5 0 x13.length)),(14,(.fz 7 (p0.f1.map e152))),(15,(eI64 (p0.f1.length:Int))),(16,(eI64 x9))]∧H=[(Z9 n5 x13)]∧F100_c1 k rec10 x9 x13=some r) ?_ ?_
   ·refine .a 3 ?_
    obtain⟨g14,h⟩:=of_guard h
    refine .a 2 ?_
    refine .alloc rfl 9 rfl (by decide) rfl zr152 lay152 fun n15=>?_
    refine .store 0 rfl rfl rfl rfl rfl rfl (.cast .here rfl) rfl rfl sz152 rfl ?_
    refine .nS [1,2,7,9,14,15,16] [1,0] ?_
    refine .seq ?_
    obtain⟨b16,q17,h⟩:=ob h
    refine .regM [(1,(.fz 1 (p1.map eBool))),(2,(eU8 p2)),(7,(.own n5 0 x8.length)),(9,(.ptr n15 0)),(14,(.fz 7 (p0.f1.map e152))),(15,(eI64 (p0.f1.length:Int))),(16,(eI64 x9)),(42,(eBool b16))] [(Z9 n5 x8),(n15,(.mem (e152 (lget p0.f1 x9))))] ?_ ?_
    ·refine .a 4 ?_
     rcases oi q17 with⟨c18,q17⟩|⟨c18,q17⟩
     ·refine .a 7 ?_
      rcases oi q17 with⟨c19,q17⟩|⟨c19,q17⟩
      ·refine .a 3 ?_
       obtain⟨g20,q17⟩:=of_guard q17
       refine .a 4 ?_
       rcases oi q17 with⟨c21,q17⟩|⟨c21,q17⟩
       ·refine .a 3 ?_
        obtain⟨t22,et22,q17⟩:=ob q17
        refine .callG 17 true 37 [(.ar 1 (((lget p0.f1 x9).f2).toList.map eU64)),(eU8 p2)] (eBool t22) 41 rfl (by decide) ok125 rfl rfl (bD c21) rfl rfl ⟨rfl,rfl,rfl,rfl,trivial⟩ (F125_spec et22) ?_
        refine .a 1 ?_
        cases q17
        refine .nilE ⟨rfl,rfl⟩ ?_ ?_
        ·exact⟨rfl,rfl,rfl,rfl,rfl,rfl,rfl,rfl,trivial⟩
        exact(.refl _)
       refine .a 5 ?_
       cases q17
       refine .nilE ⟨rfl,rfl⟩ ?_ ?_
       ·exact⟨rfl,rfl,rfl,rfl,rfl,rfl,rfl,rfl,trivial⟩
       exact(.refl _)
      refine .a 12 ?_
      cases q17
      refine .nilE ⟨rfl,rfl⟩ ?_ ?_
      ·exact⟨rfl,rfl,rfl,rfl,rfl,rfl,rfl,rfl,trivial⟩
      exact(.refl _)
     refine .a 19 ?_
     cases q17
     refine .nilE ⟨rfl,rfl⟩ ?_ ?_
     ·exact⟨rfl,rfl,rfl,rfl,rfl,rfl,rfl,rfl,trivial⟩
     exact(.refl _)
    rcases oi h with⟨c23,h⟩|⟨c23,h⟩
    ·refine .a 5 ?_
     obtain⟨g24,h⟩:=of_guard h
     refine .a 1 ?_
     refine .store 0 rfl rfl rfl rfl rfl rfl (.cast (.lidx ((lget p0.f1 x9).f1) true g24.1 g24.2 .here) (by omega)) rfl rfl sz4 rfl ?_
     refine .coe 7 (y':=(Z28 n5 (lset x8 ((lget p0.f1 x9).f1) true).length)) rfl (fun _ _ h=>lset_own h) ?_
     refine .coe 43 (y':=(Z28 n5 (lset x8 ((lget p0.f1 x9).f1) true).length)) rfl (fun _ _ h=>lset_own h) ?_
     refine .nS [1,2,7,14,15,16] [0] ?_
     exact⟨(lset x8 ((lget p0.f1 x9).f1) true),rfl,rfl,h⟩
    refine .a 1 ?_
    refine .sH [1,2,7,14,15,16] (H':=[(Z9 n5 x8)]) (.cons 0 rfl (.nil _)) ?_
    exact⟨x8,rfl,rfl,h⟩
   rintro _ _ ⟨x13,rfl,rfl,h⟩
   rw[F100_c1.eq_1]at h
   refine .a 3 ?_
   refine .nK [1,2,7,14,15,16] ?_
   exact⟨kq11,Nat.lt_succ_self _,x13,(w64 (x9+(1:Int))),rfl,rfl,by rw[hrec10];exact h⟩
  refine .a 1 ?_
  refine .eK [7] ?_
  exact⟨x8,rfl,rfl,h⟩
 rintro _ _ ⟨x7,rfl,rfl,h⟩
 rw[F100_c0.eq_1]at h
 refine .a 4 ?_
 refine .nK [6] ?_
 refine .freezeS 0 [(6,(.fz 1 (x7.map eBool)))] rfl ⟨fz_all rfl,trivial⟩ ?_
 refine .rK [6] ?_
 have hr:=Option.some.inj h
 subst hr
 exact⟨[(.fz 1 (x7.map eBool))],⟨rfl,rfl,trivial⟩,rfl⟩
end Go.Avl.T7
