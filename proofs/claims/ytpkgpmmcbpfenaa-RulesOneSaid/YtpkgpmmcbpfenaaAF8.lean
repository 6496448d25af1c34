/- Parts: T7f28, T7f110, T7f111, T7f84, T7f86, T7f65, T7f36, T7f27, T7f88, T7f66, T7f37, T7f7. -/
import Derived.Test.YtpkgpmmcbpfenaaAF1
import Derived.Test.YtpkgpmmcbpfenaaAF7
import Derived.Test.YtpkgpmmcbpfenaaAF6
import Derived.Test.YtpkgpmmcbpfenaaAv3
namespace Go.Avl.T7
open Go Go.RowKit Go.Proofs Go.Avl
set_option linter.unusedVariables false
set_option maxRecDepth 100000
set_option maxHeartbeats 4000000
attribute [local irreducible] AW AO AQ Spec SpecH Calm
def F28_c0 (k:Nat):Option Bool:=
 some (true)
def F28_c1 (k:Nat) (rec11:(Int→Option Bool)) (x10:Int):Option Bool:=
 rec11 (w64 (x10+(1:Int)))
def F28_l2 (k:Nat) (rec11:(Int→Option Bool)) (p0:S55) (x10:Int):Nat→Int→Option Bool
 | 0,_=>none
 | j+1,x23=>
   if 0≤x10∧x10<(p0.f1.length:Int)then if x23<((lget p0.f1 x10).length:Int)then Option.bind (α:=Bool) (if 0≤x10∧x10<(p0.f1.length:Int)then if 0≤x23∧x23<((lget p0.f1 x10).length:Int)then if(lget (lget p0.f1 x10) x23)<(-1:Int)then some (true)
   else if 0≤x10∧x10<(p0.f1.length:Int)then if 0≤x23∧x23<((lget p0.f1 x10).length:Int)then some (decide ((p0.f1.length:Int)≤(lget (lget p0.f1 x10) x23)))
   else none
   else none
   else none
   else none) fun b28=>
   if b28=true then some (false)
   else(F28_l2 k rec11 p0 x10 j) (w64 (x23+(1:Int)))
   else F28_c1 k rec11 x10
   else none
def F28_l3 (k:Nat) (p0:S55):Nat→Int→Option Bool
 | 0,_=>none
 | j+1,x10=>
   if x10<(p0.f1.length:Int)then Option.bind (α:=Bool) (if 0≤x10∧x10<(p0.f1.length:Int)then(F57 k p0).bind fun t17=>
   if((lget p0.f1 x10).length:Int)≠t17 then some (true)
   else if 0≤x10∧x10<(p0.f2.length:Int)then if(lget p0.f2 x10)<(-1:Int)then some (true)
   else if 0≤x10∧x10<(p0.f2.length:Int)then some (decide ((32768:Int)≤(lget p0.f2 x10)))
   else none
   else none
   else none) fun b14=>
   if b14=true then some (false)
   else F28_l2 k (F28_l3 k p0 j) p0 x10 k (0:Int)
   else F28_c0 k
def F28 (k:Nat) (p0:S55):Option Bool:=
 Option.bind (α:=Bool) (if(p0.f1.length:Int)<(1:Int)then some (true)
 else if(32768:Int)<(p0.f1.length:Int)then some (true)
 else if(p0.f2.length:Int)≠(p0.f1.length:Int)then some (true)
 else(F56 k p0).bind fun t8=>
 some (!t8)) fun b3=>
 if b3=true then some (false)
 else F28_l3 k p0 k (0:Int)
theorem F28_spec {k:Nat} {p0:S55} {r:Bool} (h:F28 k p0=some r):Spec Try.prog 28 [(e55 p0)] (eBool r):=by
 rw[F28.eq_1]at h
 refine Spec.intro (res:=[.tmp 2]) Try.func28 rfl rfl rfl (Nat.le_of_ble_eq_true rfl) ?_
 refine .sr ?_
 refine .box rfl 1 rfl (by decide) rfl rfl rfl fun n2=>?_
 refine .a 11 ?_
 obtain⟨b3,q4,h⟩:=ob h
 refine .regM [(1,(.ptr n2 0)),(3,(eI64 (p0.f1.length:Int))),(26,(eBool b3))] [(n2,(.mem (e55 p0)))] ?_ ?_
 ·refine .a 3 ?_
  rcases oi q4 with⟨c5,q4⟩|⟨c5,q4⟩
  ·refine .a 15 ?_
   cases q4
   refine .nilE ⟨rfl,rfl⟩ ?_ ?_
   ·exact⟨rfl,rfl,rfl,trivial⟩
   exact(.refl _)
  refine .a 4 ?_
  rcases oi q4 with⟨c6,q4⟩|⟨c6,q4⟩
  ·refine .a 11 ?_
   cases q4
   refine .nilE ⟨rfl,rfl⟩ ?_ ?_
   ·exact⟨rfl,rfl,rfl,trivial⟩
   exact(.refl _)
  refine .a 7 ?_
  rcases oi q4 with⟨c7,q4⟩|⟨c7,q4⟩
  ·refine .a 4 ?_
   cases q4
   refine .nilE ⟨rfl,rfl⟩ ?_ ?_
   ·exact⟨rfl,rfl,rfl,trivial⟩
   exact(.refl _)
  refine .a 1 ?_
  obtain⟨t8,et8,q4⟩:=ob q4
  refine .callG 13 false 22 [(e55 p0)] (eBool t8) 24 rfl (by decide) ok56 rfl rfl (bD (decide_eq_false c7)) rfl rfl ⟨rfl,rfl,trivial⟩ (F56_spec et8) ?_
  refine .a 2 ?_
  cases q4
  refine .nilE ⟨rfl,rfl⟩ ?_ ?_
  ·exact⟨rfl,rfl,rfl,trivial⟩
  exact(.refl _)
 rcases oi h with⟨c9,h⟩|⟨c9,h⟩
 ·refine .a 4 ?_
  refine .nS [2] [] ?_
  refine .rK [2] ?_
  have hr:=Option.some.inj h
  subst hr
  exact⟨[(eBool false)],⟨rfl,rfl,trivial⟩,rfl⟩
 refine .a 1 ?_
 refine .sK [1,3] ?_
 refine .seq_mid (fun ρ H=>ρ=[]∧H=[]∧F28_c0 k=some r) ?_ ?_
 ·refine .a 5 ?_
  refine .wK [1,3,4] ?_
  refine .loop (fun kq ρ H=>∃ (x10:Int),ρ=[(1,(.ptr n2 0)),(3,(eI64 (p0.f1.length:Int))),(4,(eI64 x10))]∧H=[(n2,(.mem (e55 p0)))]∧F28_l3 k p0 kq x10=some r) k ⟨(0:Int),rfl,rfl,h⟩ ?_
  rintro kq12 _ _ ⟨x10,rfl,rfl,h⟩
  cases kq12 with
  | zero=>rw[F28_l3.eq_1]at h;cases h
  | succ kq12=>
  rw[F28_l3.eq_2]at h
  generalize hrec11:F28_l3 k p0 kq12=rec11 at h
  refine .a 7 ?_
  rcases oi h with⟨c13,h⟩|⟨c13,h⟩
  ·refine .a 1 ?_
   refine .sK [1,3,4] ?_
   refine .seq_mid (fun ρ H=>ρ=[(1,(.ptr n2 0)),(3,(eI64 (p0.f1.length:Int))),(4,(eI64 x10))]∧H=[(n2,(.mem (e55 p0)))]∧F28_c1 k rec11 x10=some r) ?_ ?_
   ·refine .a 3 ?_
    obtain⟨b14,q15,h⟩:=ob h
    refine .regQM (by rfl) (by decide+kernel) [(1,(.ptr n2 0)),(3,(eI64 (p0.f1.length:Int))),(4,(eI64 x10)),(56,(eBool b14))] ?_ ?_
    ·refine .a 3 ?_
     obtain⟨g16,q15⟩:=of_guard q15
     refine .a 4 ?_
     obtain⟨t17,et17,q15⟩:=ob q15
     refine .c (.call (args:=[(e55 p0)]) rfl rfl ok57 ⟨rfl,rfl,trivial⟩ rfl (F57_spec et17)) ?_
     refine .a 2 ?_
     rcases oi q15 with⟨c18,q15⟩|⟨c18,q15⟩
     ·refine .a 15 ?_
      cases q15
      refine .nilE rfl ?_
      exact⟨rfl,rfl,rfl,rfl,trivial⟩
     refine .a 3 ?_
     obtain⟨g19,q15⟩:=of_guard q15
     refine .a 5 ?_
     rcases oi q15 with⟨c20,q15⟩|⟨c20,q15⟩
     ·refine .a 7 ?_
      cases q15
      refine .nilE rfl ?_
      exact⟨rfl,rfl,rfl,rfl,trivial⟩
     refine .a 3 ?_
     obtain⟨g21,q15⟩:=of_guard q15
     refine .a 4 ?_
     cases q15
     refine .nilE rfl ?_
     exact⟨rfl,rfl,rfl,rfl,trivial⟩
    rcases oi h with⟨c22,h⟩|⟨c22,h⟩
    ·refine .a 4 ?_
     refine .nS [2] [] ?_
     refine .rK [2] ?_
     have hr:=Option.some.inj h
     subst hr
     exact⟨[(eBool false)],⟨rfl,rfl,trivial⟩,rfl⟩
    refine .a 7 ?_
    refine .wK [1,3,4,5] ?_
    refine .loop (fun kq ρ H=>∃ (x23:Int),ρ=[(1,(.ptr n2 0)),(3,(eI64 (p0.f1.length:Int))),(4,(eI64 x10)),(5,(eI64 x23))]∧H=[(n2,(.mem (e55 p0)))]∧F28_l2 k rec11 p0 x10 kq x23=some r) k ⟨(0:Int),rfl,rfl,h⟩ ?_
    rintro kq25 _ _ ⟨x23,rfl,rfl,h⟩
    cases kq25 with
    | zero=>rw[F28_l2.eq_1]at h;cases h
    | succ kq25=>
    rw[F28_l2.eq_2]at h
    generalize hrec24:F28_l2 k rec11 p0 x10 kq25=rec24 at h
    refine .a 7 ?_
    obtain⟨g26,h⟩:=of_guard h
    refine .a 5 ?_
    rcases oi h with⟨c27,h⟩|⟨c27,h⟩
    ·refine .a 5 ?_
     obtain⟨b28,q29,h⟩:=ob h
     refine .regM [(1,(.ptr n2 0)),(3,(eI64 (p0.f1.length:Int))),(4,(eI64 x10)),(5,(eI64 x23)),(87,(eBool b28))] [(n2,(.mem (e55 p0)))] ?_ ?_
     ·refine .a 3 ?_
      obtain⟨g30,q29⟩:=of_guard q29
      refine .a 3 ?_
      obtain⟨g31,q29⟩:=of_guard q29
      refine .a 4 ?_
      rcases oi q29 with⟨c32,q29⟩|⟨c32,q29⟩
      ·refine .a 11 ?_
       cases q29
       refine .nilE ⟨rfl,rfl⟩ ?_ ?_
       ·exact⟨rfl,rfl,rfl,rfl,rfl,trivial⟩
       exact(.refl _)
      refine .a 3 ?_
      obtain⟨g33,q29⟩:=of_guard q29
      refine .a 3 ?_
      obtain⟨g34,q29⟩:=of_guard q29
      refine .a 5 ?_
      cases q29
      refine .nilE ⟨rfl,rfl⟩ ?_ ?_
      ·exact⟨rfl,rfl,rfl,rfl,rfl,trivial⟩
      exact(.refl _)
     rcases oi h with⟨c35,h⟩|⟨c35,h⟩
     ·refine .a 4 ?_
      refine .nS [2] [] ?_
      refine .rK [2] ?_
      have hr:=Option.some.inj h
      subst hr
      exact⟨[(eBool false)],⟨rfl,rfl,trivial⟩,rfl⟩
     refine .a 6 ?_
     refine .nK [1,3,4,5] ?_
     exact⟨kq25,Nat.lt_succ_self _,(w64 (x23+(1:Int))),rfl,rfl,by rw[hrec24];exact h⟩
    refine .a 1 ?_
    refine .eK [1,3,4] ?_
    exact⟨rfl,rfl,h⟩
   rintro _ _ ⟨rfl,rfl,h⟩
   rw[F28_c1.eq_1]at h
   refine .a 4 ?_
   refine .nK [1,3,4] ?_
   exact⟨kq12,Nat.lt_succ_self _,(w64 (x10+(1:Int))),rfl,rfl,by rw[hrec11];exact h⟩
  refine .a 1 ?_
  refine .eH [] (H':=[]) (.nil _) ?_
  exact⟨rfl,rfl,h⟩
 rintro _ _ ⟨rfl,rfl,h⟩
 rw[F28_c0.eq_1]at h
 refine .a 3 ?_
 refine .nK [2] ?_
 refine .rK [2] ?_
 have hr:=Option.some.inj h
 subst hr
 exact⟨[(eBool true)],⟨rfl,rfl,trivial⟩,rfl⟩
def F110 (k:Nat) (p0:Int):Option Int:=
 Option.bind (α:=Bool) (if p0<(0:Int)then some (true)
 else some (decide ((6:Int)<p0))) fun b3=>
 if b3=true then some ((-1:Int))
 else if 0≤p0∧p0<(([(0:Int),(0:Int),(2:Int),(2:Int),(1:Int),(1:Int),(1:Int)]:List Int).length:Int)then(some (lget ([(0:Int),(0:Int),(2:Int),(2:Int),(1:Int),(1:Int),(1:Int)]:List Int) p0)).bind fun x8=>
 some (x8)
 else none
theorem F110_spec {k:Nat} {p0:Int} {r:Int} (h:F110 k p0=some r):Spec Try.prog 110 [(eI64 p0)] (eI64 r):=by
 rw[F110.eq_1]at h
 refine Spec.intro (res:=[.tmp 2]) Try.func110 rfl rfl rfl (Nat.le_of_ble_eq_true rfl) ?_
 refine .a 6 ?_
 refine .lit (Z:=(eI64 (0:Int))) (xs:=(([(0:Int),(0:Int),(2:Int),(2:Int),(1:Int),(1:Int),(1:Int)]:List Int).map eI64)) (qs:=[(0,(eI64 (0:Int))),(1,(eI64 (0:Int))),(2,(eI64 (2:Int))),(3,(eI64 (2:Int))),(4,(eI64 (1:Int))),(5,(eI64 (1:Int))),(6,(eI64 (1:Int)))]) rfl 4 rfl (by decide) rfl ⟨rfl,rfl,rfl,rfl,rfl,rfl,rfl,rfl,rfl,rfl,rfl,rfl,rfl,rfl,rfl,rfl,rfl,rfl,rfl,rfl,rfl,trivial⟩ Try.underlying35 sz3 zr3 lay3 rfl (by decide) (litOK (z:=1) [(eI64 (0:Int)),(eI64 (0:Int)),(eI64 (2:Int)),(eI64 (2:Int)),(eI64 (1:Int)),(eI64 (1:Int)),(eI64 (1:Int))] rfl ⟨⟨rfl,rfl⟩,⟨rfl,rfl⟩,⟨rfl,rfl⟩,⟨rfl,rfl⟩,⟨rfl,rfl⟩,⟨rfl,rfl⟩,⟨rfl,rfl⟩,trivial⟩) rfl fun n2=>?_
 refine .a 4 ?_
 obtain⟨b3,q4,h⟩:=ob h
 refine .regM [(0,(eI64 p0)),(3,(Z28 n2 ([(0:Int),(0:Int),(2:Int),(2:Int),(1:Int),(1:Int),(1:Int)]:List Int).length)),(10,(eBool b3))] [(n2,(Z3 ([(0:Int),(0:Int),(2:Int),(2:Int),(1:Int),(1:Int),(1:Int)]:List Int)))] ?_ ?_
 ·refine .a 3 ?_
  rcases oi q4 with⟨c5,q4⟩|⟨c5,q4⟩
  ·refine .a 3 ?_
   cases q4
   refine .nilE ⟨rfl,rfl⟩ ?_ ?_
   ·exact⟨rfl,rfl,rfl,trivial⟩
   exact(.refl _)
  refine .a 3 ?_
  cases q4
  refine .nilE ⟨rfl,rfl⟩ ?_ ?_
  ·exact⟨rfl,rfl,rfl,trivial⟩
  exact(.refl _)
 rcases oi h with⟨c6,h⟩|⟨c6,h⟩
 ·refine .a 4 ?_
  refine .nS [2] [] ?_
  refine .rK [2] ?_
  cases h
  exact⟨[(eI64 (-1:Int))],⟨rfl,rfl,trivial⟩,rfl⟩
 refine .a 6 ?_
 obtain⟨g7,h⟩:=of_guard h
 refine .c (.idxO 0 rfl rfl rfl rfl g7 Try.underlying35 sz3) ?_
 refine .c (.load 0 rfl rfl rfl (.cast (.lidx p0 g7.1 g7.2 .here) (by omega)) ag3 sz3) ?_
 obtain⟨x8,ex8,h⟩:=ob h
 refine .c (.assign rfl (congrArg (fun x=>some (eI64 x)) (Option.some.inj ex8))) ?_
 refine .nS [2] [] ?_
 refine .rK [2] ?_
 have hr:=Option.some.inj h
 subst hr
 exact⟨[(eI64 x8)],⟨rfl,rfl,trivial⟩,rfl⟩
def F111_c0 (k:Nat):Option Int:=
 some ((0:Int))
def F111_l1 (k:Nat) (p0:(List S131)):Nat→Int→Int→Option Int
 | 0,_,_=>none
 | j+1,x3,x4=>
   if(0:Int)≤x4 then if 0≤x4∧x4<(p0.length:Int)then(F110 k ((lget p0 x4).f0)).bind fun t9=>
   if(w64 ((w64 (x3 - (1:Int)))+t9))=(0:Int)then some (x4)
   else(F111_l1 k p0 j) (w64 ((w64 (x3 - (1:Int)))+t9)) (w64 (x4 - (1:Int)))
   else none
   else F111_c0 k
def F111 (k:Nat) (p0:(List S131)) (p1:Int):Option Int:=
 F111_l1 k p0 k (1:Int) p1
theorem F111_spec {k:Nat} {p0:(List S131)} {p1:Int} {r:Int} (h:F111 k p0 p1=some r):Spec Try.prog 111 [(.fz 5 (p0.map e131)),(eI64 p1)] (eI64 r):=by
 rw[F111.eq_1]at h
 refine Spec.intro (res:=[.tmp 4]) Try.func111 rfl rfl rfl (Nat.le_of_ble_eq_true rfl) ?_
 refine .a 7 ?_
 refine .nK [0,1,5] ?_
 refine .seq_mid (fun ρ H=>ρ=[]∧H=[]∧F111_c0 k=some r) ?_ ?_
 ·refine .a 6 ?_
  refine .wK [0,5,6] ?_
  refine .loop (fun kq ρ H=>∃ (x3:Int) (x4:Int),ρ=[(0,(.fz 5 (p0.map e131))),(5,(eI64 x3)),(6,(eI64 x4))]∧H=[]∧F111_l1 k p0 kq x3 x4=some r) k ⟨(1:Int),p1,rfl,rfl,h⟩ ?_
  rintro kq6 _ _ ⟨x3,x4,rfl,rfl,h⟩
  cases kq6 with
  | zero=>rw[F111_l1.eq_1]at h;cases h
  | succ kq6=>
  rw[F111_l1.eq_2]at h
  generalize hrec5:F111_l1 k p0 kq6=rec5 at h
  refine .a 6 ?_
  rcases oi h with⟨c7,h⟩|⟨c7,h⟩
  ·refine .a 10 ?_
   obtain⟨g8,h⟩:=of_guard h
   refine .a 1 ?_
   refine .c (.fldRp rfl rfl Try.underlying131 rfl sz3 (.cast (.fld0 .here) rfl)) ?_
   refine .a 1 ?_
   obtain⟨t9,et9,h⟩:=ob h
   refine .callS [(eI64 ((lget p0 x4).f0))] (eI64 t9) 19 rfl (by decide) ok110 rfl rfl rfl ⟨rfl,rfl,trivial⟩ (F110_spec et9) ?_
   refine .a 8 ?_
   rcases oi h with⟨c10,h⟩|⟨c10,h⟩
   ·refine .a 5 ?_
    refine .nK [4] ?_
    refine .rK [4] ?_
    have hr:=Option.some.inj h
    subst hr
    exact⟨[(eI64 x4)],⟨rfl,rfl,trivial⟩,rfl⟩
   refine .a 6 ?_
   refine .nK [0,5,6] ?_
   exact⟨kq6,Nat.lt_succ_self _,(w64 ((w64 (x3 - (1:Int)))+t9)),(w64 (x4 - (1:Int))),rfl,rfl,by rw[hrec5];exact h⟩
  refine .a 1 ?_
  refine .eK [] ?_
  exact⟨rfl,rfl,h⟩
 rintro _ _ ⟨rfl,rfl,h⟩
 rw[F111_c0.eq_1]at h
 refine .a 3 ?_
 refine .nK [4] ?_
 refine .rK [4] ?_
 cases h
 exact⟨[(eI64 (0:Int))],⟨rfl,rfl,trivial⟩,rfl⟩
def F84_c0 (k:Nat) (x3:(List (List S131))):Option (List (List S131)):=
 some (x3)
def F84_l1 (k:Nat) (p0:(List S131)):Nat→(List (List S131))→Int→Int→Option (List (List S131))
 | 0,_,_,_=>none
 | j+1,x7,x8,x9=>
   if(0:Int)<x9 then(F111 k p0 (w64 (x8 - (1:Int)))).bind fun t13=>
   if 0≤t13∧t13≤x8∧x8≤(p0.length:Int)then if(([(lcut p0 t13 x8)]:List (List S131))++x7).length*24≤140737488355328 then(F84_l1 k p0 j) (([(lcut p0 t13 x8)]:List (List S131))++x7) t13 (w64 (x9 - (1:Int)))
   else none
   else none
   else F84_c0 k x7
def F84 (k:Nat) (p0:(List S131)):Option (List (List S131)):=
 if 0≤(w64 ((p0.length:Int) - (1:Int)))∧(w64 ((p0.length:Int) - (1:Int)))<(p0.length:Int)then(F110 k ((lget p0 (w64 ((p0.length:Int) - (1:Int)))).f0)).bind fun t5=>
 F84_l1 k p0 k ([]:List (List S131)) (w64 ((p0.length:Int) - (1:Int))) t5
 else none
theorem F84_spec {k:Nat} {p0:(List S131)} {r:(List (List S131))} (h:F84 k p0=some r):Spec Try.prog 84 [(.fz 5 (p0.map e131))] (e132 r):=by
 rw[F84.eq_1]at h
 refine Spec.intro (res:=[.tmp 2]) Try.func84 rfl rfl rfl (Nat.le_of_ble_eq_true rfl) ?_
 refine .a 19 ?_
 refine .nK [0,3,4,5] ?_
 refine .seq_mid (fun ρ H=>∃ (n2:Nat) (x3:(List (List S131))),ρ=[(4,(.own n2 0 x3.length))]∧H=[(n2,(.mem (.ar 1 (x3.map e68))))]∧F84_c0 k x3=some r) ?_ ?_
 ·refine .a 4 ?_
  obtain⟨g4,h⟩:=of_guard h
  refine .a 1 ?_
  refine .c (.fldRp rfl rfl Try.underlying131 rfl sz3 (.cast (.fld0 .here) rfl)) ?_
  refine .a 1 ?_
  obtain⟨t5,et5,h⟩:=ob h
  refine .callS [(eI64 ((lget p0 (w64 ((p0.length:Int) - (1:Int)))).f0))] (eI64 t5) 17 rfl (by decide) ok110 rfl rfl rfl ⟨rfl,rfl,trivial⟩ (F110_spec et5) ?_
  refine .a 3 ?_
  refine .nilOwn 4 1 rfl fun n18=>?_
  refine .wK [0,4,5,6] ?_
  refine .loop (fun kq ρ H=>∃ (n6:Nat) (x7:(List (List S131))) (x8:Int) (x9:Int),ρ=[(0,(.fz 5 (p0.map e131))),(4,(.own n6 0 x7.length)),(5,(eI64 x8)),(6,(eI64 x9))]∧H=[(n6,(.mem (.ar 1 (x7.map e68))))]∧F84_l1 k p0 kq x7 x8 x9=some r) k ⟨n18,([]:List (List S131)),(w64 ((p0.length:Int) - (1:Int))),t5,rfl,rfl,h⟩ ?_
  rintro kq11 _ _ ⟨n6,x7,x8,x9,rfl,rfl,h⟩
  cases kq11 with
  | zero=>rw[F84_l1.eq_1]at h;cases h
  | succ kq11=>
  rw[F84_l1.eq_2]at h
  generalize hrec10:F84_l1 k p0 kq11=rec10 at h
  refine .a 6 ?_
  rcases oi h with⟨c12,h⟩|⟨c12,h⟩
  ·refine .a 9 ?_
   obtain⟨t13,et13,h⟩:=ob h
   refine .callS [(.fz 5 (p0.map e131)),(eI64 (w64 (x8 - (1:Int))))] (eI64 t13) 25 rfl (by decide) ok111 rfl rfl rfl ⟨rfl,rfl,rfl,rfl,trivial⟩ (F111_spec et13) ?_
   refine .a 7 ?_
   obtain⟨g14,h⟩:=of_guard h
   refine .c (x:=.fz 5 ((lcut p0 t13 x8).map e131)) (.sliceL rfl rfl rfl rfl g14 Try.underlying68 sz131) ?_
   refine .lit (Z:=(.fl (.slice none 0 0))) (xs:=(([(lcut p0 t13 x8)]:List (List S131)).map e68)) (qs:=[(0,(Z11 (lcut p0 t13 x8)))]) rfl 30 rfl (by decide) rfl ⟨rfl,rfl,rfl,trivial⟩ Try.underlying132 sz68 zr68 lay68 rfl (by decide) (litOK (z:=1) [(Z11 (lcut p0 t13 x8))] rfl ⟨⟨rfl,rfl⟩,trivial⟩) rfl fun n15=>?_
   refine .a 1 ?_
   obtain⟨g17,h⟩:=of_guard h
   refine .appendL (l:=([(lcut p0 t13 x8)]:List (List S131))) (m:=x7) 0 32 rfl (by decide) rfl rfl rfl rfl rfl (Src.ownL (f:=e68) (l:=x7) 1 rfl) Try.underlying132 Try.underlying132 sz68 by68 zr68 rfl g17 (by decide) fun n16=>?_
   refine .a 1 ?_
   refine .nS [0,4,6,7] [0] ?_
   refine .a 8 ?_
   refine .nK [0,4,5,6] ?_
   exact⟨kq11,Nat.lt_succ_self _,n16,(([(lcut p0 t13 x8)]:List (List S131))++x7),t13,(w64 (x9 - (1:Int))),rfl,rfl,by rw[hrec10];exact h⟩
  refine .a 1 ?_
  refine .eK [4] ?_
  exact⟨n6,x7,rfl,rfl,h⟩
 rintro _ _ ⟨n2,x3,rfl,rfl,h⟩
 rw[F84_c0.eq_1]at h
 refine .a 4 ?_
 refine .nK [2] ?_
 refine .freezeS 0 [(2,(.fz 1 (x3.map e68)))] rfl ⟨fz_all rfl,trivial⟩ ?_
 refine .rK [2] ?_
 have hr:=Option.some.inj h
 subst hr
 exact⟨[(.fz 1 (x3.map e68))],⟨rfl,rfl,trivial⟩,rfl⟩
def F86_c0 (k:Nat) (x4:(List Bool)):Option (List Bool):=
 some (x4)
def F86_c1 (k:Nat) (rec8:((List Bool)→Int→Option (List Bool))) (x7:Int) (x12:(List Bool)):Option (List Bool):=
 rec8 x12 (w64 (x7+(1:Int)))
def F86_l2 (k:Nat) (p0:(List Bool)) (p1:(List Bool)):Nat→(List Bool)→Int→Option (List Bool)
 | 0,_,_=>none
 | j+1,x6,x7=>
   if x7<(p0.length:Int)then if 0≤x7∧x7<(p0.length:Int)then if(lget p0 x7)=true then if(x6++([true]:List Bool)).length*1≤140737488355328 then F86_c1 k (F86_l2 k p0 p1 j) x7 (x6++([true]:List Bool))
   else none
   else if 0≤x7∧x7<(p1.length:Int)then if(x6++([(lget p1 x7)]:List Bool)).length*1≤140737488355328 then F86_c1 k (F86_l2 k p0 p1 j) x7 (x6++([(lget p1 x7)]:List Bool))
   else none
   else none
   else none
   else F86_c0 k x6
def F86 (k:Nat) (p0:(List Bool)) (p1:(List Bool)):Option (List Bool):=
 F86_l2 k p0 p1 k ([]:List Bool) (0:Int)
theorem F86_spec {k:Nat} {p0:(List Bool)} {p1:(List Bool)} {r:(List Bool)} (h:F86 k p0 p1=some r):Spec Try.prog 86 [(.fz 1 (p0.map eBool)),(.fz 1 (p1.map eBool))] (e98 r):=by
 rw[F86.eq_1]at h
 refine Spec.intro (res:=[.tmp 4]) Try.func86 rfl rfl rfl (Nat.le_of_ble_eq_true rfl) ?_
 refine .a 7 ?_
 refine .nK [0,1,5] ?_
 refine .seq_mid (fun ρ H=>∃ (n3:Nat) (x4:(List Bool)),ρ=[(5,(.own n3 0 x4.length))]∧H=[(Z9 n3 x4)]∧F86_c0 k x4=some r) ?_ ?_
 ·refine .a 5 ?_
  refine .nilOwn 5 1 rfl fun n22=>?_
  refine .wK [0,1,5,6] ?_
  refine .loop (fun kq ρ H=>∃ (n5:Nat) (x6:(List Bool)) (x7:Int),ρ=[(0,(.fz 1 (p0.map eBool))),(1,(.fz 1 (p1.map eBool))),(5,(.own n5 0 x6.length)),(6,(eI64 x7))]∧H=[(Z9 n5 x6)]∧F86_l2 k p0 p1 kq x6 x7=some r) k ⟨n22,([]:List Bool),(0:Int),rfl,rfl,h⟩ ?_
  rintro kq9 _ _ ⟨n5,x6,x7,rfl,rfl,h⟩
  cases kq9 with
  | zero=>rw[F86_l2.eq_1]at h;cases h
  | succ kq9=>
  rw[F86_l2.eq_2]at h
  generalize hrec8:F86_l2 k p0 p1 kq9=rec8 at h
  refine .a 8 ?_
  rcases oi h with⟨c10,h⟩|⟨c10,h⟩
  ·refine .a 1 ?_
   refine .sK [0,1,5,6] ?_
   refine .seq_mid (fun ρ H=>∃ (n11:Nat) (x12:(List Bool)),ρ=[(0,(.fz 1 (p0.map eBool))),(1,(.fz 1 (p1.map eBool))),(5,(.own n11 0 x12.length)),(6,(eI64 x7))]∧H=[(Z9 n11 x12)]∧F86_c1 k rec8 x7 x12=some r) ?_ ?_
   ·refine .a 5 ?_
    obtain⟨g13,h⟩:=of_guard h
    refine .a 3 ?_
    rcases oi h with⟨c14,h⟩|⟨c14,h⟩
    ·refine .a 5 ?_
     refine .lit (Z:=(eBool false)) (xs:=(([true]:List Bool).map eBool)) (qs:=[(0,(eBool true))]) rfl 24 rfl (by decide) rfl ⟨rfl,rfl,rfl,trivial⟩ Try.underlying98 sz4 zr4 lay4 rfl (by decide) (litOK (z:=1) [(eBool true)] rfl ⟨⟨rfl,rfl⟩,trivial⟩) rfl fun n15=>?_
     obtain⟨g17,h⟩:=of_guard h
     refine .appendL (l:=x6) (m:=([true]:List Bool)) 1 25 rfl (by decide) rfl rfl rfl rfl rfl (Src.ownL (f:=eBool) (l:=([true]:List Bool)) 0 rfl) Try.underlying98 Try.underlying98 sz4 by4 zr4 rfl g17 (by decide) fun n16=>?_
     refine .a 1 ?_
     refine .nS [0,1,5,6] [1] ?_
     exact⟨n16,(x6++([true]:List Bool)),rfl,rfl,h⟩
    refine .a 2 ?_
    obtain⟨g18,h⟩:=of_guard h
    refine .a 3 ?_
    refine .lit (Z:=(eBool false)) (xs:=(([(lget p1 x7)]:List Bool).map eBool)) (qs:=[(0,(eBool (lget p1 x7)))]) rfl 24 rfl (by decide) rfl ⟨rfl,rfl,rfl,trivial⟩ Try.underlying98 sz4 zr4 lay4 rfl (by decide) (litOK (z:=1) [(eBool (lget p1 x7))] rfl ⟨⟨rfl,rfl⟩,trivial⟩) rfl fun n19=>?_
    obtain⟨g21,h⟩:=of_guard h
    refine .appendL (l:=x6) (m:=([(lget p1 x7)]:List Bool)) 1 25 rfl (by decide) rfl rfl rfl rfl rfl (Src.ownL (f:=eBool) (l:=([(lget p1 x7)]:List Bool)) 0 rfl) Try.underlying98 Try.underlying98 sz4 by4 zr4 rfl g21 (by decide) fun n20=>?_
    refine .a 1 ?_
    refine .nS [0,1,5,6] [1] ?_
    exact⟨n20,(x6++([(lget p1 x7)]:List Bool)),rfl,rfl,h⟩
   rintro _ _ ⟨n11,x12,rfl,rfl,h⟩
   rw[F86_c1.eq_1]at h
   refine .a 4 ?_
   refine .nK [0,1,5,6] ?_
   exact⟨kq9,Nat.lt_succ_self _,n11,x12,(w64 (x7+(1:Int))),rfl,rfl,by rw[hrec8];exact h⟩
  refine .a 1 ?_
  refine .eK [5] ?_
  exact⟨n5,x6,rfl,rfl,h⟩
 rintro _ _ ⟨n3,x4,rfl,rfl,h⟩
 rw[F86_c0.eq_1]at h
 refine .a 4 ?_
 refine .nK [4] ?_
 refine .freezeS 0 [(4,(.fz 1 (x4.map eBool)))] rfl ⟨fz_all rfl,trivial⟩ ?_
 refine .rK [4] ?_
 have hr:=Option.some.inj h
 subst hr
 exact⟨[(.fz 1 (x4.map eBool))],⟨rfl,rfl,trivial⟩,rfl⟩
end Go.Avl.T7
namespace Go.Avl.T7
open Go Go.RowKit Go.Proofs Go.Avl
set_option linter.unusedVariables false
set_option maxRecDepth 100000
set_option maxHeartbeats 4000000
set_option linter.unusedSimpArgs false
attribute [local irreducible] AW AO AQ Spec SpecH Calm
def F65a_c0 (k:Nat) (self65:((List S131)→ByteArray→(List Bool)→Option (List Bool))) (self87:((List S131)→ByteArray→(List Bool)→Option (List Bool))) (p0:(List S131)) (p1:ByteArray) (p2:(List Bool)) (t6:(List (List S131))):Option (List Bool):=
 if 0≤(w64 ((p0.length:Int) - (1:Int)))∧(w64 ((p0.length:Int) - (1:Int)))<(p0.length:Int)then if((lget p0 (w64 ((p0.length:Int) - (1:Int)))).f0)=(4:Int)then if 0≤(0:Int)∧(0:Int)<(t6.length:Int)then(self87 (lget t6 (0:Int)) p1 p2).bind fun t10=>
 some (t10)
 else none
 else if 0≤(0:Int)∧(0:Int)<(t6.length:Int)then if 0≤(0:Int)∧(0:Int)<(t6.length:Int)then(self65 (lget t6 (0:Int)) p1 p2).bind fun t13=>
 (self87 (lget t6 (0:Int)) p1 t13).bind fun t14=>
 some (t14)
 else none
 else none
 else none
def F65a_c1 (k:Nat) (x18:(List Bool)):Option (List Bool):=
 some (x18)
def F65a_c2 (k:Nat) (rec21:((List Bool)→Int→Option (List Bool))) (x20:Int) (x24:(List Bool)):Option (List Bool):=
 rec21 x24 (w64 (x20+(1:Int)))
def F65a_l3 (k:Nat) (p0:(List S131)) (p1:ByteArray) (p2:(List Bool)):Nat→(List Bool)→Int→Option (List Bool)
 | 0,_,_=>none
 | j+1,x19,x20=>
   if x20<(p1.size:Int)then if 0≤x20∧x20<(p2.length:Int)then if(lget p2 x20)=true then if 0≤(w64 ((p0.length:Int) - (1:Int)))∧(w64 ((p0.length:Int) - (1:Int)))<(p0.length:Int)then if 0≤x20∧x20<(p1.size:Int)then(F85 k ((lget p0 (w64 ((p0.length:Int) - (1:Int)))).f1) (w64 (byteAt p1 x20))).bind fun t29=>
   if 0≤(w64 (x20+(1:Int)))∧(w64 (x20+(1:Int)))<(x19.length:Int)then F65a_c2 k (F65a_l3 k p0 p1 p2 j) x20 (lset x19 (w64 (x20+(1:Int))) t29)
   else none
   else none
   else none
   else if 0≤(w64 (x20+(1:Int)))∧(w64 (x20+(1:Int)))<(x19.length:Int)then F65a_c2 k (F65a_l3 k p0 p1 p2 j) x20 (lset x19 (w64 (x20+(1:Int))) false)
   else none
   else none
   else F65a_c1 k x19
def F65b_c0 (k:Nat) (x4:(List Bool)):Option (List Bool):=
 some (x4)
def F65b_c1 (k:Nat) (rec7:((List Bool)→Int→Option (List Bool))) (x6:Int) (x10:(List Bool)):Option (List Bool):=
 rec7 x10 (w64 (x6+(1:Int)))
def F65b_c2 (k:Nat) (rec7:((List Bool)→Int→Option (List Bool))) (x6:Int) (t12:(List Bool)) (b13:Bool):Option (List Bool):=
 if b13=true then some (t12)
 else F65b_c1 k rec7 x6 t12
def F65b_l3 (k:Nat) (rec7:((List Bool)→Int→Option (List Bool))) (x5:(List Bool)) (x6:Int) (t12:(List Bool)):Nat→Bool→Int→Option (List Bool)
 | 0,_,_=>none
 | j+1,b15,x16=>
   if x16<(t12.length:Int)then Option.bind (α:=Bool) (if b15=true then if 0≤x16∧x16<(t12.length:Int)then if 0≤x16∧x16<(x5.length:Int)then some (((lget t12 x16)==(lget x5 x16)))
   else none
   else none
   else some (false)) fun b20=>
   (F65b_l3 k rec7 x5 x6 t12 j) b20 (w64 (x16+(1:Int)))
   else F65b_c2 k rec7 x6 t12 b15
def F65b_l4 (k:Nat) (self65:((List S131)→ByteArray→(List Bool)→Option (List Bool))) (p0:(List S131)) (p1:ByteArray):Nat→(List Bool)→Int→Option (List Bool)
 | 0,_,_=>none
 | j+1,x5,x6=>
   if x6≤(p1.size:Int)then(self65 p0 p1 x5).bind fun t11=>
   (F86 k x5 t11).bind fun t12=>
   F65b_l3 k (F65b_l4 k self65 p0 p1 j) x5 x6 t12 k true (0:Int)
   else F65b_c0 k x5
mutual
def F65a_r (k:Nat):Nat→(List S131)→ByteArray→(List Bool)→Option (List Bool)
 | 0,_,_,_=>none
 | j+1,p0,p1,p2=>
   if 0≤(p2.length:Int)∧(p2.length:Int)*(1:Int)≤140737488355328∧(p2.length:Int)≤9223372036854775807 then(F84 k p0).bind fun t6=>
   if 0≤(w64 ((p0.length:Int) - (1:Int)))∧(w64 ((p0.length:Int) - (1:Int)))<(p0.length:Int)then if((lget p0 (w64 ((p0.length:Int) - (1:Int)))).f0)=(0:Int)then some (p2)
   else if((lget p0 (w64 ((p0.length:Int) - (1:Int)))).f0)=(1:Int)then F65a_l3 k p0 p1 p2 k (List.replicate (p2.length:Int).toNat false) (0:Int)
   else if((lget p0 (w64 ((p0.length:Int) - (1:Int)))).f0)=(2:Int)then if 0≤(1:Int)∧(1:Int)<(t6.length:Int)then if 0≤(0:Int)∧(0:Int)<(t6.length:Int)then((F65a_r k j) (lget t6 (0:Int)) p1 p2).bind fun t35=>
   ((F65a_r k j) (lget t6 (1:Int)) p1 t35).bind fun t36=>
   some (t36)
   else none
   else none
   else if((lget p0 (w64 ((p0.length:Int) - (1:Int)))).f0)=(3:Int)then if 0≤(0:Int)∧(0:Int)<(t6.length:Int)then((F65a_r k j) (lget t6 (0:Int)) p1 p2).bind fun t39=>
   if 0≤(1:Int)∧(1:Int)<(t6.length:Int)then((F65a_r k j) (lget t6 (1:Int)) p1 p2).bind fun t41=>
   (F86 k t39 t41).bind fun t42=>
   some (t42)
   else none
   else none
   else if((lget p0 (w64 ((p0.length:Int) - (1:Int)))).f0)=(6:Int)then if 0≤(0:Int)∧(0:Int)<(t6.length:Int)then((F65a_r k j) (lget t6 (0:Int)) p1 p2).bind fun t45=>
   (F86 k p2 t45).bind fun t46=>
   some (t46)
   else none
   else F65a_c0 k (F65a_r k j) (F65b_r k j) p0 p1 p2 t6
   else none
   else none
def F65b_r (k:Nat):Nat→(List S131)→ByteArray→(List Bool)→Option (List Bool)
 | 0,_,_,_=>none
 | j+1,p0,p1,p2=>
   F65b_l4 k (F65a_r k j) p0 p1 k p2 (0:Int)
end
def F65a (k:Nat) (p0:(List S131)) (p1:ByteArray) (p2:(List Bool)):Option (List Bool):=F65a_r k k p0 p1 p2
theorem F65a_all (k:Nat):∀ j:Nat,(∀ (p0:(List S131)) (p1:ByteArray) (p2:(List Bool)) (r:(List Bool)),F65a_r k j p0 p1 p2=some r→Spec Try.prog 65 [(.fz 5 (p0.map e131)),(eStr p1),(.fz 1 (p2.map eBool))] (e98 r))∧(∀ (p0:(List S131)) (p1:ByteArray) (p2:(List Bool)) (r:(List Bool)),F65b_r k j p0 p1 p2=some r→Spec Try.prog 87 [(.fz 5 (p0.map e131)),(eStr p1),(.fz 1 (p2.map eBool))] (e98 r)):=by
 intro j
 induction j with
 | zero=>exact⟨(by intro p0 p1 p2 r h;rw[F65a_r.eq_1]at h;cases h),(by intro p0 p1 p2 r h;rw[F65b_r.eq_1]at h;cases h)⟩
 | succ j hself=>
 obtain⟨hself65,hself87⟩:=hself
 refine⟨?_,?_⟩
 ·intro p0 p1 p2 r h
  rw[F65a_r.eq_2]at h
  generalize hsself65:F65a_r k j=self65 at h hself65
  generalize hsself87:F65b_r k j=self87 at h hself87
  refine Spec.intro (res:=[.tmp 6]) Try.func65 rfl rfl rfl (Nat.le_of_ble_eq_true rfl) ?_
  refine .a 8 ?_
  obtain⟨g5,h⟩:=of_guard h
  refine .makeL (f:=eBool) false rfl 12 rfl (by decide) rfl rfl rfl Try.underlying98 sz4 by4 zr4 lay4 rfl g5 fun n4=>?_
  refine .a 5 ?_
  obtain⟨t6,et6,h⟩:=ob h
  refine .callS [(.fz 5 (p0.map e131))] (.fz 1 (t6.map e68)) 14 rfl (by decide) ok84 rfl rfl rfl ⟨rfl,rfl,trivial⟩ (F84_spec et6) ?_
  refine .a 1 ?_
  refine .nK [0,1,2,7,8] ?_
  refine .seq_mid (fun ρ H=>ρ=[(0,(.fz 5 (p0.map e131))),(1,(eStr p1)),(2,(.fz 1 (p2.map eBool))),(8,(.fz 1 (t6.map e68)))]∧H=[]∧F65a_c0 k self65 self87 p0 p1 p2 t6=some r) ?_ ?_
  ·refine .a 6 ?_
   obtain⟨g15,h⟩:=of_guard h
   refine .a 1 ?_
   refine .c (.fldRp rfl rfl Try.underlying131 rfl sz3 (.cast (.fld0 .here) rfl)) ?_
   refine .a 8 ?_
   rcases oi h with⟨c16,h⟩|⟨c16,h⟩
   ·refine .a 5 ?_
    refine .nS [6] [] ?_
    refine .rK [6] ?_
    have hr:=Option.some.inj h
    subst hr
    exact⟨[(.fz 1 (p2.map eBool))],⟨rfl,rfl,trivial⟩,rfl⟩
   refine .a 6 ?_
   rcases oi h with⟨c17,h⟩|⟨c17,h⟩
   ·refine .a 1 ?_
    refine .seq_mid (fun ρ H=>∃ (x18:(List Bool)),ρ=[(7,(.own n4 0 x18.length))]∧H=[(Z9 n4 x18)]∧F65a_c1 k x18=some r) ?_ ?_
    ·refine .a 5 ?_
     refine .wK [0,1,2,7,9] ?_
     refine .loop (fun kq ρ H=>∃ (x19:(List Bool)) (x20:Int),ρ=[(0,(.fz 5 (p0.map e131))),(1,(eStr p1)),(2,(.fz 1 (p2.map eBool))),(7,(.own n4 0 x19.length)),(9,(eI64 x20))]∧H=[(Z9 n4 x19)]∧F65a_l3 k p0 p1 p2 kq x19 x20=some r) k ⟨(List.replicate (p2.length:Int).toNat false),(0:Int),rfl,rfl,h⟩ ?_
     rintro kq22 _ _ ⟨x19,x20,rfl,rfl,h⟩
     cases kq22 with
     | zero=>rw[F65a_l3.eq_1]at h;cases h
     | succ kq22=>
     rw[F65a_l3.eq_2]at h
     generalize hrec21:F65a_l3 k p0 p1 p2 kq22=rec21 at h
     refine .a 8 ?_
     rcases oi h with⟨c23,h⟩|⟨c23,h⟩
     ·refine .a 1 ?_
      refine .sK [0,1,2,7,9] ?_
      refine .seq_mid (fun ρ H=>∃ (x24:(List Bool)),ρ=[(0,(.fz 5 (p0.map e131))),(1,(eStr p1)),(2,(.fz 1 (p2.map eBool))),(7,(.own n4 0 x24.length)),(9,(eI64 x20))]∧H=[(Z9 n4 x24)]∧F65a_c2 k rec21 x20 x24=some r) ?_ ?_
      ·refine .a 1 ?_
       obtain⟨g25,h⟩:=of_guard h
       rcases oi h with⟨c26,h⟩|⟨c26,h⟩
       ·obtain⟨g27,h⟩:=of_guard h
        obtain⟨g28,h⟩:=of_guard h
        obtain⟨t29,et29,h⟩:=ob h
        obtain⟨g30,h⟩:=of_guard h
        refine .regEff (by rfl) (by decide+kernel) (fun (σ:Nat→Nat)=>([(.own n4 0 x19.length),(eI64 x20),(eI64 (w64 (x20+(1:Int)))),(.fz 1 (p2.map eBool)),(eI64 x20),(.rp (eBool (lget p2 x20))),(eBool (lget p2 x20)),(eBool (lget p2 x20)),(.fz 5 (p0.map e131)),(.fz 5 (p0.map e131)),(eI64 (p0.length:Int)),(eI64 (w64 ((p0.length:Int) - (1:Int)))),(.rp (e131 (lget p0 (w64 ((p0.length:Int) - (1:Int)))))),(.rp (.ar 1 (((lget p0 (w64 ((p0.length:Int) - (1:Int)))).f1).toList.map eU64))),(.ar 1 (((lget p0 (w64 ((p0.length:Int) - (1:Int)))).f1).toList.map eU64)),(eStr p1),(eI64 x20),(eU8 (byteAt p1 x20)),(eI64 (w64 (byteAt p1 x20))),(eBool t29),(eBool t29),(.ptr n4 ((w64 (x20+(1:Int))).toNat*1+0)),(.fl undef)]:List AV)) (fun (L:Nat→Bool) (σ:Nat→Nat)=>((bif L 22 then((Z9 n4 (lset x19 (w64 (x20+(1:Int))) t29))::[])else((Z9 n4 x19)::[])):Heap)) [(0,(.fz 5 (p0.map e131))),(1,(eStr p1)),(2,(.fz 1 (p2.map eBool))),(7,(.own n4 0 x19.length)),(9,(eI64 x20))] ⟨rfl,rfl,rfl,rfl,rfl,trivial⟩ (fun _=>rfl) (fun σ=>(.refl _)) ⟨?_,?_,?_,?_,?_,?_,?_,?_,?_,?_,?_,?_,?_,?_,?_,?_,?_,?_,?_,?_,?_,?_,?_,trivial⟩ (fun σ=>[(0,(.fz 5 (p0.map e131))),(1,(eStr p1)),(2,(.fz 1 (p2.map eBool))),(7,(.own n4 0 x19.length)),(9,(eI64 x20))]) (fun σ=>((Z9 n4 (lset x19 (w64 (x20+(1:Int))) t29))::[])) (fun σ=>⟨rfl,rfl,rfl,rfl,rfl,trivial⟩) (fun σ=>.refl _) (fun σ=>?_)
        ·refine .calm (fun _ _=>rfl) fun L σ hc hi hd=>?_
         have m22:L 22=false:=hc.neg (i:=0) (j:=22) rfl (by rfl) hi
         refine .heq (H':=((Z9 n4 x19)::[])) (by first|rfl|simp only[m22,cond_true,cond_false]) ?_
         refine .a 1 ?_
         exact .nE (d:=33) rfl ⟨⟨33,_,rfl,rfl,rfl⟩,.of_eq (by first|rfl|simp only[m22,cond_true,cond_false]) (.refl _)⟩
        ·refine .calm (fun _ _=>rfl) fun L σ hc hi hd=>?_
         refine .a 1 ?_
         exact .nE (d:=34) rfl ⟨⟨34,_,rfl,rfl,rfl⟩,.refl _⟩
        ·refine .calm (fun _ _=>rfl) fun L σ hc hi hd=>?_
         refine .a 1 ?_
         exact .nE (d:=35) rfl ⟨⟨35,_,rfl,rfl,rfl⟩,.refl _⟩
        ·refine .calm (fun _ _=>rfl) fun L σ hc hi hd=>?_
         refine .a 1 ?_
         exact .nE (d:=36) rfl ⟨⟨36,_,rfl,rfl,rfl⟩,.refl _⟩
        ·refine .calm (fun _ _=>rfl) fun L σ hc hi hd=>?_
         refine .a 1 ?_
         exact .nE (d:=37) rfl ⟨⟨37,_,rfl,rfl,rfl⟩,.refl _⟩
        ·refine .calm (fun _ _=>rfl) fun L σ hc hi hd=>?_
         refine .a 1 ?_
         exact .nE (d:=38) rfl ⟨⟨38,_,rfl,rfl,rfl⟩,.refl _⟩
        ·refine .calm (fun _ _=>rfl) fun L σ hc hi hd=>?_
         refine .a 1 ?_
         exact .nE (d:=39) rfl ⟨⟨39,_,rfl,rfl,rfl⟩,.refl _⟩
        ·refine .calm (fun _ _=>rfl) fun L σ hc hi hd=>?_
         refine .a 1 ?_
         exact .nE (d:=40) rfl ⟨⟨40,_,rfl,rfl,rfl⟩,.refl _⟩
        ·refine .calm (fun _ _=>rfl) fun L σ hc hi hd=>?_
         refine .a 1 ?_
         exact .nE (d:=41) rfl ⟨⟨41,_,rfl,rfl,rfl⟩,.refl _⟩
        ·refine .calm (fun _ _=>rfl) fun L σ hc hi hd=>?_
         refine .a 1 ?_
         exact .nE (d:=42) rfl ⟨⟨42,_,rfl,rfl,rfl⟩,.refl _⟩
        ·refine .calm (fun _ _=>rfl) fun L σ hc hi hd=>?_
         refine .a 1 ?_
         exact .nE (d:=43) rfl ⟨⟨43,_,rfl,rfl,rfl⟩,.refl _⟩
        ·refine .calm (fun _ _=>rfl) fun L σ hc hi hd=>?_
         refine .a 1 ?_
         exact .nE (d:=44) rfl ⟨⟨44,_,rfl,rfl,rfl⟩,.refl _⟩
        ·refine .calm (fun _ _=>rfl) fun L σ hc hi hd=>?_
         refine .a 1 ?_
         exact .nE (d:=45) rfl ⟨⟨45,_,rfl,rfl,rfl⟩,.refl _⟩
        ·refine .calm (fun _ _=>rfl) fun L σ hc hi hd=>?_
         refine .wK [40,45] ?_
         refine .cG rfl rfl (bD c26) (.fldRp rfl rfl Try.underlying131 rfl sz62 (.cast (.fldS (.fld0 .here)) rfl)) ?_
         exact .nE (d:=46) rfl ⟨⟨46,_,rfl,rfl,rfl⟩,.refl _⟩
        ·refine .calm (fun _ _=>rfl) fun L σ hc hi hd=>?_
         refine .a 1 ?_
         exact .nE (d:=47) rfl ⟨⟨47,_,rfl,rfl,rfl⟩,.refl _⟩
        ·refine .calm (fun _ _=>rfl) fun L σ hc hi hd=>?_
         refine .a 1 ?_
         exact .nE (d:=48) rfl ⟨⟨48,_,rfl,rfl,rfl⟩,.refl _⟩
        ·refine .calm (fun _ _=>rfl) fun L σ hc hi hd=>?_
         refine .a 1 ?_
         exact .nE (d:=49) rfl ⟨⟨49,_,rfl,rfl,rfl⟩,.refl _⟩
        ·refine .calm (fun _ _=>rfl) fun L σ hc hi hd=>?_
         refine .a 1 ?_
         exact .nE (d:=50) rfl ⟨⟨50,_,rfl,rfl,rfl⟩,.refl _⟩
        ·refine .calm (fun _ _=>rfl) fun L σ hc hi hd=>?_
         refine .a 1 ?_
         exact .nE (d:=51) rfl ⟨⟨51,_,rfl,rfl,rfl⟩,.refl _⟩
        ·refine .calm (fun _ _=>rfl) fun L σ hc hi hd=>?_
         refine .wK [40,47,51] ?_
         refine .callG 7 true 40 [(.ar 1 (((lget p0 (w64 ((p0.length:Int) - (1:Int)))).f1).toList.map eU64)),(eI64 (w64 (byteAt p1 x20)))] (eBool t29) 52 rfl (by decide) ok85 rfl rfl (bD c26) rfl rfl ⟨rfl,rfl,rfl,rfl,trivial⟩ (F85_spec et29) ?_
         exact .nE (d:=52) rfl ⟨⟨52,_,rfl,rfl,rfl⟩,.refl _⟩
        ·refine .calm (fun _ _=>rfl) fun L σ hc hi hd=>?_
         refine .a 1 ?_
         exact .nE (d:=53) rfl ⟨⟨53,_,rfl,rfl,rfl⟩,.refl _⟩
        ·refine .calm (fun _ _=>rfl) fun L σ hc hi hd=>?_
         have m22:L 22=false:=hc.neg (i:=21) (j:=22) rfl (by rfl) hi
         refine .heq (H':=((Z9 n4 x19)::[])) (by first|rfl|simp only[m22,cond_true,cond_false]) ?_
         refine .a 1 ?_
         exact .nE (d:=54) rfl ⟨⟨54,_,rfl,rfl,rfl⟩,.of_eq (by first|rfl|simp only[m22,cond_true,cond_false]) (.refl _)⟩
        ·intro L σ hc hi hd
         refine .heq (H':=((Z9 n4 x19)::[])) (by first|rfl|simp only[hi,cond_true,cond_false]) ?_
         refine .wK [53,54] ?_
         refine .store 0 rfl rfl rfl rfl rfl rfl (.cast (.lidx (w64 (x20+(1:Int))) t29 g30.1 g30.2 .here) (by omega)) rfl rfl sz4 rfl ?_
         have a22:addL L 22 22=true:=rfl
         exact .n0 ⟨σ,(fun _ _=>rfl),(fun d' hd'=>by cases hd'),.of_eq (B:=((Z9 n4 (lset x19 (w64 (x20+(1:Int))) t29))::[])) (by simp only[a22,cond_true,cond_false]) (.refl _)⟩
        refine .coe 7 (y':=(Z28 n4 (lset x19 (w64 (x20+(1:Int))) t29).length)) rfl (fun _ _ h=>own_len (by simp[lset,lcopy_len]) h) ?_
        refine .nK [0,1,2,7,9] ?_
        exact⟨(lset x19 (w64 (x20+(1:Int))) t29),rfl,rfl,h⟩
       obtain⟨g31,h⟩:=of_guard h
       refine .regEff (by rfl) (by decide+kernel) (fun (σ:Nat→Nat)=>([(.own n4 0 x19.length),(eI64 x20),(eI64 (w64 (x20+(1:Int)))),(.fz 1 (p2.map eBool)),(eI64 x20),(.rp (eBool (lget p2 x20))),(eBool (lget p2 x20)),(eBool (lget p2 x20)),(.fl undef),(.fl undef),(.fl undef),(.fl undef),(.fl undef),(.fl undef),(.fl undef),(.fl undef),(.fl undef),(.fl undef),(.fl undef),(.fl undef),(eBool false),(.ptr n4 ((w64 (x20+(1:Int))).toNat*1+0)),(.fl undef)]:List AV)) (fun (L:Nat→Bool) (σ:Nat→Nat)=>((bif L 22 then((Z9 n4 (lset x19 (w64 (x20+(1:Int))) false))::[])else((Z9 n4 x19)::[])):Heap)) [(0,(.fz 5 (p0.map e131))),(1,(eStr p1)),(2,(.fz 1 (p2.map eBool))),(7,(.own n4 0 x19.length)),(9,(eI64 x20))] ⟨rfl,rfl,rfl,rfl,rfl,trivial⟩ (fun _=>rfl) (fun σ=>(.refl _)) ⟨?_,?_,?_,?_,?_,?_,?_,?_,?_,?_,?_,?_,?_,?_,?_,?_,?_,?_,?_,?_,?_,?_,?_,trivial⟩ (fun σ=>[(0,(.fz 5 (p0.map e131))),(1,(eStr p1)),(2,(.fz 1 (p2.map eBool))),(7,(.own n4 0 x19.length)),(9,(eI64 x20))]) (fun σ=>((Z9 n4 (lset x19 (w64 (x20+(1:Int))) false))::[])) (fun σ=>⟨rfl,rfl,rfl,rfl,rfl,trivial⟩) (fun σ=>.refl _) (fun σ=>?_)
       ·refine .calm (fun _ _=>rfl) fun L σ hc hi hd=>?_
        have m22:L 22=false:=hc.neg (i:=0) (j:=22) rfl (by rfl) hi
        refine .heq (H':=((Z9 n4 x19)::[])) (by first|rfl|simp only[m22,cond_true,cond_false]) ?_
        refine .a 1 ?_
        exact .nE (d:=33) rfl ⟨⟨33,_,rfl,rfl,rfl⟩,.of_eq (by first|rfl|simp only[m22,cond_true,cond_false]) (.refl _)⟩
       ·refine .calm (fun _ _=>rfl) fun L σ hc hi hd=>?_
        refine .a 1 ?_
        exact .nE (d:=34) rfl ⟨⟨34,_,rfl,rfl,rfl⟩,.refl _⟩
       ·refine .calm (fun _ _=>rfl) fun L σ hc hi hd=>?_
        refine .a 1 ?_
        exact .nE (d:=35) rfl ⟨⟨35,_,rfl,rfl,rfl⟩,.refl _⟩
       ·refine .calm (fun _ _=>rfl) fun L σ hc hi hd=>?_
        refine .a 1 ?_
        exact .nE (d:=36) rfl ⟨⟨36,_,rfl,rfl,rfl⟩,.refl _⟩
       ·refine .calm (fun _ _=>rfl) fun L σ hc hi hd=>?_
        refine .a 1 ?_
        exact .nE (d:=37) rfl ⟨⟨37,_,rfl,rfl,rfl⟩,.refl _⟩
       ·refine .calm (fun _ _=>rfl) fun L σ hc hi hd=>?_
        refine .a 1 ?_
        exact .nE (d:=38) rfl ⟨⟨38,_,rfl,rfl,rfl⟩,.refl _⟩
       ·refine .calm (fun _ _=>rfl) fun L σ hc hi hd=>?_
        refine .a 1 ?_
        exact .nE (d:=39) rfl ⟨⟨39,_,rfl,rfl,rfl⟩,.refl _⟩
       ·refine .calm (fun _ _=>rfl) fun L σ hc hi hd=>?_
        refine .a 1 ?_
        exact .nE (d:=40) rfl ⟨⟨40,_,rfl,rfl,rfl⟩,.refl _⟩
       ·refine .calm (fun _ _=>rfl) fun L σ hc hi hd=>?_
        refine .a 1 ?_
        exact .nE (d:=41) rfl ⟨⟨41,_,rfl,rfl,rfl⟩,.refl _⟩
       ·refine .calm (fun _ _=>rfl) fun L σ hc hi hd=>?_
        refine .a 1 ?_
        exact .nE (d:=42) rfl ⟨⟨42,_,rfl,rfl,rfl⟩,.refl _⟩
       ·refine .calm (fun _ _=>rfl) fun L σ hc hi hd=>?_
        refine .a 1 ?_
        exact .nE (d:=43) rfl ⟨⟨43,_,rfl,rfl,rfl⟩,.refl _⟩
       ·refine .calm (fun _ _=>rfl) fun L σ hc hi hd=>?_
        refine .a 1 ?_
        exact .nE (d:=44) rfl ⟨⟨44,_,rfl,rfl,rfl⟩,.refl _⟩
       ·refine .calm (fun _ _=>rfl) fun L σ hc hi hd=>?_
        refine .a 1 ?_
        exact .nE (d:=45) rfl ⟨⟨45,_,rfl,rfl,rfl⟩,.refl _⟩
       ·refine .calm (fun _ _=>rfl) fun L σ hc hi hd=>?_
        refine .a 1 ?_
        exact .nE (d:=46) rfl ⟨⟨46,_,rfl,rfl,rfl⟩,.refl _⟩
       ·refine .calm (fun _ _=>rfl) fun L σ hc hi hd=>?_
        refine .a 1 ?_
        exact .nE (d:=47) rfl ⟨⟨47,_,rfl,rfl,rfl⟩,.refl _⟩
       ·refine .calm (fun _ _=>rfl) fun L σ hc hi hd=>?_
        refine .a 1 ?_
        exact .nE (d:=48) rfl ⟨⟨48,_,rfl,rfl,rfl⟩,.refl _⟩
       ·refine .calm (fun _ _=>rfl) fun L σ hc hi hd=>?_
        refine .a 1 ?_
        exact .nE (d:=49) rfl ⟨⟨49,_,rfl,rfl,rfl⟩,.refl _⟩
       ·refine .calm (fun _ _=>rfl) fun L σ hc hi hd=>?_
        refine .a 1 ?_
        exact .nE (d:=50) rfl ⟨⟨50,_,rfl,rfl,rfl⟩,.refl _⟩
       ·refine .calm (fun _ _=>rfl) fun L σ hc hi hd=>?_
        refine .a 1 ?_
        exact .nE (d:=51) rfl ⟨⟨51,_,rfl,rfl,rfl⟩,.refl _⟩
       ·refine .calm (fun _ _=>rfl) fun L σ hc hi hd=>?_
        refine .a 1 ?_
        exact .nE (d:=52) rfl ⟨⟨52,_,rfl,rfl,rfl⟩,.refl _⟩
       ·refine .calm (fun _ _=>rfl) fun L σ hc hi hd=>?_
        refine .a 1 ?_
        exact .nE (d:=53) rfl ⟨⟨53,_,rfl,rfl,rfl⟩,.refl _⟩
       ·refine .calm (fun _ _=>rfl) fun L σ hc hi hd=>?_
        have m22:L 22=false:=hc.neg (i:=21) (j:=22) rfl (by rfl) hi
        refine .heq (H':=((Z9 n4 x19)::[])) (by first|rfl|simp only[m22,cond_true,cond_false]) ?_
        refine .a 1 ?_
        exact .nE (d:=54) rfl ⟨⟨54,_,rfl,rfl,rfl⟩,.of_eq (by first|rfl|simp only[m22,cond_true,cond_false]) (.refl _)⟩
       ·intro L σ hc hi hd
        refine .heq (H':=((Z9 n4 x19)::[])) (by first|rfl|simp only[hi,cond_true,cond_false]) ?_
        refine .wK [53,54] ?_
        refine .store 0 rfl rfl rfl rfl rfl rfl (.cast (.lidx (w64 (x20+(1:Int))) false g31.1 g31.2 .here) (by omega)) rfl rfl sz4 rfl ?_
        have a22:addL L 22 22=true:=rfl
        exact .n0 ⟨σ,(fun _ _=>rfl),(fun d' hd'=>by cases hd'),.of_eq (B:=((Z9 n4 (lset x19 (w64 (x20+(1:Int))) false))::[])) (by simp only[a22,cond_true,cond_false]) (.refl _)⟩
       refine .coe 7 (y':=(Z28 n4 (lset x19 (w64 (x20+(1:Int))) false).length)) rfl (fun _ _ h=>own_len (by simp[lset,lcopy_len]) h) ?_
       refine .nK [0,1,2,7,9] ?_
       exact⟨(lset x19 (w64 (x20+(1:Int))) false),rfl,rfl,h⟩
      rintro _ _ ⟨x24,rfl,rfl,h⟩
      rw[F65a_c2.eq_1]at h
      refine .a 4 ?_
      refine .nK [0,1,2,7,9] ?_
      exact⟨kq22,Nat.lt_succ_self _,x24,(w64 (x20+(1:Int))),rfl,rfl,by rw[hrec21];exact h⟩
     refine .a 1 ?_
     refine .eK [7] ?_
     exact⟨x19,rfl,rfl,h⟩
    rintro _ _ ⟨x18,rfl,rfl,h⟩
    rw[F65a_c1.eq_1]at h
    refine .a 4 ?_
    refine .nK [6] ?_
    refine .freezeS 0 [(6,(.fz 1 (x18.map eBool)))] rfl ⟨fz_all rfl,trivial⟩ ?_
    refine .rK [6] ?_
    have hr:=Option.some.inj h
    subst hr
    exact⟨[(.fz 1 (x18.map eBool))],⟨rfl,rfl,trivial⟩,rfl⟩
   refine .a 5 ?_
   refine .nS [0,1,2,8,21,56] [] ?_
   rcases oi h with⟨c32,h⟩|⟨c32,h⟩
   ·refine .a 2 ?_
    obtain⟨g33,h⟩:=of_guard h
    obtain⟨g34,h⟩:=of_guard h
    obtain⟨t35,et35,h⟩:=ob h
    obtain⟨t36,et36,h⟩:=ob h
    refine .regAny (by rfl) (by decide+kernel) [(.fz 1 (t6.map e68)),(.rp (Z11 (lget t6 (1:Int)))),(Z11 (lget t6 (1:Int))),(eStr p1),(.fz 1 (t6.map e68)),(.rp (Z11 (lget t6 (0:Int)))),(Z11 (lget t6 (0:Int))),(eStr p1),(.fz 1 (p2.map eBool)),(.fz 1 (t35.map eBool)),(.fz 1 (t36.map eBool)),(.fz 1 (t36.map eBool))] [(1,(eStr p1)),(2,(.fz 1 (p2.map eBool))),(8,(.fz 1 (t6.map e68)))] ⟨rfl,rfl,rfl,trivial⟩ rfl ?_ [(6,(.fz 1 (t36.map eBool)))] [] ⟨rfl,trivial⟩ (.refl _) ?_
    ·refine⟨?_,?_,?_,?_,?_,?_,?_,?_,?_,?_,?_,?_,trivial⟩
     ·refine .a 1 ?_
      exact .q 58
     ·refine .a 1 ?_
      exact .q 59
     ·refine .a 1 ?_
      exact .q 60
     ·refine .a 1 ?_
      exact .q 61
     ·refine .a 1 ?_
      exact .q 62
     ·refine .a 1 ?_
      exact .q 63
     ·refine .a 1 ?_
      exact .q 64
     ·refine .a 1 ?_
      exact .q 65
     ·refine .a 1 ?_
      exact .q 66
     ·refine .wK [64,65,66] ?_
      refine .callS [(Z11 (lget t6 (0:Int))),(eStr p1),(.fz 1 (p2.map eBool))] (.fz 1 (t35.map eBool)) 67 rfl (by decide) ok65 rfl rfl rfl ⟨rfl,rfl,rfl,rfl,rfl,rfl,trivial⟩ (hself65 _ _ _ _ et35) ?_
      exact .q 67
     ·refine .wK [60,61,67] ?_
      refine .callS [(Z11 (lget t6 (1:Int))),(eStr p1),(.fz 1 (t35.map eBool))] (.fz 1 (t36.map eBool)) 68 rfl (by decide) ok65 rfl rfl rfl ⟨rfl,rfl,rfl,rfl,rfl,rfl,trivial⟩ (hself65 _ _ _ _ et36) ?_
      exact .q 68
     refine .a 1 ?_
     exact .q 6
    refine .rK [6] ?_
    have hr:=Option.some.inj h
    subst hr
    exact⟨[(.fz 1 (t36.map eBool))],⟨rfl,rfl,trivial⟩,rfl⟩
   refine .a 6 ?_
   rcases oi h with⟨c37,h⟩|⟨c37,h⟩
   ·refine .a 2 ?_
    obtain⟨g38,h⟩:=of_guard h
    obtain⟨t39,et39,h⟩:=ob h
    obtain⟨g40,h⟩:=of_guard h
    obtain⟨t41,et41,h⟩:=ob h
    obtain⟨t42,et42,h⟩:=ob h
    refine .regAny (by rfl) (by decide+kernel) [(.fz 1 (t6.map e68)),(.rp (Z11 (lget t6 (0:Int)))),(Z11 (lget t6 (0:Int))),(eStr p1),(.fz 1 (p2.map eBool)),(.fz 1 (t39.map eBool)),(.fz 1 (t6.map e68)),(.rp (Z11 (lget t6 (1:Int)))),(Z11 (lget t6 (1:Int))),(eStr p1),(.fz 1 (p2.map eBool)),(.fz 1 (t41.map eBool)),(.fz 1 (t42.map eBool)),(.fz 1 (t42.map eBool))] [(1,(eStr p1)),(2,(.fz 1 (p2.map eBool))),(8,(.fz 1 (t6.map e68)))] ⟨rfl,rfl,rfl,trivial⟩ rfl ?_ [(6,(.fz 1 (t42.map eBool)))] [] ⟨rfl,trivial⟩ (.refl _) ?_
    ·refine⟨?_,?_,?_,?_,?_,?_,?_,?_,?_,?_,?_,?_,?_,?_,trivial⟩
     ·refine .a 1 ?_
      exact .q 71
     ·refine .a 1 ?_
      exact .q 72
     ·refine .a 1 ?_
      exact .q 73
     ·refine .a 1 ?_
      exact .q 74
     ·refine .a 1 ?_
      exact .q 75
     ·refine .wK [73,74,75] ?_
      refine .callS [(Z11 (lget t6 (0:Int))),(eStr p1),(.fz 1 (p2.map eBool))] (.fz 1 (t39.map eBool)) 76 rfl (by decide) ok65 rfl rfl rfl ⟨rfl,rfl,rfl,rfl,rfl,rfl,trivial⟩ (hself65 _ _ _ _ et39) ?_
      exact .q 76
     ·refine .a 1 ?_
      exact .q 77
     ·refine .a 1 ?_
      exact .q 78
     ·refine .a 1 ?_
      exact .q 79
     ·refine .a 1 ?_
      exact .q 80
     ·refine .a 1 ?_
      exact .q 81
     ·refine .wK [79,80,81] ?_
      refine .callS [(Z11 (lget t6 (1:Int))),(eStr p1),(.fz 1 (p2.map eBool))] (.fz 1 (t41.map eBool)) 82 rfl (by decide) ok65 rfl rfl rfl ⟨rfl,rfl,rfl,rfl,rfl,rfl,trivial⟩ (hself65 _ _ _ _ et41) ?_
      exact .q 82
     ·refine .wK [76,82] ?_
      refine .callS [(.fz 1 (t39.map eBool)),(.fz 1 (t41.map eBool))] (.fz 1 (t42.map eBool)) 83 rfl (by decide) ok86 rfl rfl rfl ⟨rfl,rfl,rfl,rfl,trivial⟩ (F86_spec et42) ?_
      exact .q 83
     refine .a 1 ?_
     exact .q 6
    refine .rK [6] ?_
    have hr:=Option.some.inj h
    subst hr
    exact⟨[(.fz 1 (t42.map eBool))],⟨rfl,rfl,trivial⟩,rfl⟩
   refine .a 6 ?_
   rcases oi h with⟨c43,h⟩|⟨c43,h⟩
   ·refine .a 5 ?_
    obtain⟨g44,h⟩:=of_guard h
    refine .a 4 ?_
    obtain⟨t45,et45,h⟩:=ob h
    refine .callS [(Z11 (lget t6 (0:Int))),(eStr p1),(.fz 1 (p2.map eBool))] (.fz 1 (t45.map eBool)) 92 rfl (by decide) ok65 rfl rfl rfl ⟨rfl,rfl,rfl,rfl,rfl,rfl,trivial⟩ (hself65 _ _ _ _ et45) ?_
    obtain⟨t46,et46,h⟩:=ob h
    refine .callS [(.fz 1 (p2.map eBool)),(.fz 1 (t45.map eBool))] (.fz 1 (t46.map eBool)) 93 rfl (by decide) ok86 rfl rfl rfl ⟨rfl,rfl,rfl,rfl,trivial⟩ (F86_spec et46) ?_
    refine .a 1 ?_
    refine .nK [6] ?_
    refine .rK [6] ?_
    have hr:=Option.some.inj h
    subst hr
    exact⟨[(.fz 1 (t46.map eBool))],⟨rfl,rfl,trivial⟩,rfl⟩
   refine .a 1 ?_
   refine .sK [0,1,2,8] ?_
   exact⟨rfl,rfl,h⟩
  rintro _ _ ⟨rfl,rfl,h⟩
  rw[F65a_c0.eq_1]at h
  refine .a 7 ?_
  obtain⟨g7,h⟩:=of_guard h
  refine .a 1 ?_
  refine .c (.fldRp rfl rfl Try.underlying131 rfl sz3 (.cast (.fld0 .here) rfl)) ?_
  refine .a 3 ?_
  rcases oi h with⟨c8,h⟩|⟨c8,h⟩
  ·refine .a 4 ?_
   obtain⟨g9,h⟩:=of_guard h
   refine .a 4 ?_
   obtain⟨t10,et10,h⟩:=ob h
   refine .callS [(Z11 (lget t6 (0:Int))),(eStr p1),(.fz 1 (p2.map eBool))] (.fz 1 (t10.map eBool)) 107 rfl (by decide) ok87 rfl rfl rfl ⟨rfl,rfl,rfl,rfl,rfl,rfl,trivial⟩ (hself87 _ _ _ _ et10) ?_
   refine .a 1 ?_
   refine .nK [6] ?_
   refine .rK [6] ?_
   have hr:=Option.some.inj h
   subst hr
   exact⟨[(.fz 1 (t10.map eBool))],⟨rfl,rfl,trivial⟩,rfl⟩
  refine .a 3 ?_
  obtain⟨g11,h⟩:=of_guard h
  obtain⟨g12,h⟩:=of_guard h
  obtain⟨t13,et13,h⟩:=ob h
  obtain⟨t14,et14,h⟩:=ob h
  refine .regAny (by rfl) (by decide+kernel) [(.fz 1 (t6.map e68)),(.rp (Z11 (lget t6 (0:Int)))),(Z11 (lget t6 (0:Int))),(eStr p1),(.fz 1 (t6.map e68)),(.rp (Z11 (lget t6 (0:Int)))),(Z11 (lget t6 (0:Int))),(eStr p1),(.fz 1 (p2.map eBool)),(.fz 1 (t13.map eBool)),(.fz 1 (t14.map eBool)),(.fz 1 (t14.map eBool))] [(1,(eStr p1)),(2,(.fz 1 (p2.map eBool))),(8,(.fz 1 (t6.map e68)))] ⟨rfl,rfl,rfl,trivial⟩ rfl ?_ [(6,(.fz 1 (t14.map eBool)))] [] ⟨rfl,trivial⟩ (.refl _) ?_
  ·refine⟨?_,?_,?_,?_,?_,?_,?_,?_,?_,?_,?_,?_,trivial⟩
   ·refine .a 1 ?_
    exact .q 108
   ·refine .a 1 ?_
    exact .q 109
   ·refine .a 1 ?_
    exact .q 110
   ·refine .a 1 ?_
    exact .q 111
   ·refine .a 1 ?_
    exact .q 112
   ·refine .a 1 ?_
    exact .q 113
   ·refine .a 1 ?_
    exact .q 114
   ·refine .a 1 ?_
    exact .q 115
   ·refine .a 1 ?_
    exact .q 116
   ·refine .wK [114,115,116] ?_
    refine .callS [(Z11 (lget t6 (0:Int))),(eStr p1),(.fz 1 (p2.map eBool))] (.fz 1 (t13.map eBool)) 117 rfl (by decide) ok65 rfl rfl rfl ⟨rfl,rfl,rfl,rfl,rfl,rfl,trivial⟩ (hself65 _ _ _ _ et13) ?_
    exact .q 117
   ·refine .wK [110,111,117] ?_
    refine .callS [(Z11 (lget t6 (0:Int))),(eStr p1),(.fz 1 (t13.map eBool))] (.fz 1 (t14.map eBool)) 118 rfl (by decide) ok87 rfl rfl rfl ⟨rfl,rfl,rfl,rfl,rfl,rfl,trivial⟩ (hself87 _ _ _ _ et14) ?_
    exact .q 118
   refine .a 1 ?_
   exact .q 6
  refine .rK [6] ?_
  have hr:=Option.some.inj h
  subst hr
  exact⟨[(.fz 1 (t14.map eBool))],⟨rfl,rfl,trivial⟩,rfl⟩
 intro p0 p1 p2 r h
 rw[F65b_r.eq_2]at h
 generalize hsself65:F65a_r k j=self65 at h hself65
 generalize hsself87:F65b_r k j=self87 at h hself87
 refine Spec.intro (res:=[.tmp 6]) Try.func87 rfl rfl rfl (Nat.le_of_ble_eq_true rfl) ?_
 refine .a 3 ?_
 refine .nK [0,1,2] ?_
 refine .seq_mid (fun ρ H=>∃ (x4:(List Bool)),ρ=[(2,(.fz 1 (x4.map eBool)))]∧H=[]∧F65b_c0 k x4=some r) ?_ ?_
 ·refine .a 5 ?_
  refine .wK [0,1,2,7] ?_
  refine .loop (fun kq ρ H=>∃ (x5:(List Bool)) (x6:Int),ρ=[(0,(.fz 5 (p0.map e131))),(1,(eStr p1)),(2,(.fz 1 (x5.map eBool))),(7,(eI64 x6))]∧H=[]∧F65b_l4 k self65 p0 p1 kq x5 x6=some r) k ⟨p2,(0:Int),rfl,rfl,h⟩ ?_
  rintro kq8 _ _ ⟨x5,x6,rfl,rfl,h⟩
  cases kq8 with
  | zero=>rw[F65b_l4.eq_1]at h;cases h
  | succ kq8=>
  rw[F65b_l4.eq_2]at h
  generalize hrec7:F65b_l4 k self65 p0 p1 kq8=rec7 at h
  refine .a 8 ?_
  rcases oi h with⟨c9,h⟩|⟨c9,h⟩
  ·refine .a 1 ?_
   refine .sK [0,1,2,7] ?_
   refine .seq_mid (fun ρ H=>∃ (x10:(List Bool)),ρ=[(0,(.fz 5 (p0.map e131))),(1,(eStr p1)),(2,(.fz 1 (x10.map eBool))),(7,(eI64 x6))]∧H=[]∧F65b_c1 k rec7 x6 x10=some r) ?_ ?_
   ·refine .a 7 ?_
    obtain⟨t11,et11,h⟩:=ob h
    refine .callS [(.fz 5 (p0.map e131)),(eStr p1),(.fz 1 (x5.map eBool))] (.fz 1 (t11.map eBool)) 21 rfl (by decide) ok65 rfl rfl rfl ⟨rfl,rfl,rfl,rfl,rfl,rfl,trivial⟩ (hself65 _ _ _ _ et11) ?_
    obtain⟨t12,et12,h⟩:=ob h
    refine .callS [(.fz 1 (x5.map eBool)),(.fz 1 (t11.map eBool))] (.fz 1 (t12.map eBool)) 22 rfl (by decide) ok86 rfl rfl rfl ⟨rfl,rfl,rfl,rfl,trivial⟩ (F86_spec et12) ?_
    refine .a 5 ?_
    refine .nK [0,1,2,7,8,9] ?_
    refine .seq_mid (fun ρ H=>∃ (b13:Bool),ρ=[(0,(.fz 5 (p0.map e131))),(1,(eStr p1)),(7,(eI64 x6)),(8,(.fz 1 (t12.map eBool))),(9,(eBool b13))]∧H=[]∧F65b_c2 k rec7 x6 t12 b13=some r) ?_ ?_
    ·refine .a 5 ?_
     refine .wK [0,1,2,7,8,9,10] ?_
     refine .loop (fun kq ρ H=>∃ (b15:Bool) (x16:Int),ρ=[(0,(.fz 5 (p0.map e131))),(1,(eStr p1)),(2,(.fz 1 (x5.map eBool))),(7,(eI64 x6)),(8,(.fz 1 (t12.map eBool))),(9,(eBool b15)),(10,(eI64 x16))]∧H=[]∧F65b_l3 k rec7 x5 x6 t12 kq b15 x16=some r) k ⟨true,(0:Int),rfl,rfl,h⟩ ?_
     rintro kq18 _ _ ⟨b15,x16,rfl,rfl,h⟩
     cases kq18 with
     | zero=>rw[F65b_l3.eq_1]at h;cases h
     | succ kq18=>
     rw[F65b_l3.eq_2]at h
     generalize hrec17:F65b_l3 k rec7 x5 x6 t12 kq18=rec17 at h
     refine .a 8 ?_
     rcases oi h with⟨c19,h⟩|⟨c19,h⟩
     ·refine .a 4 ?_
      obtain⟨b20,q21,h⟩:=ob h
      refine .regQM (by rfl) (by decide+kernel) [(0,(.fz 5 (p0.map e131))),(1,(eStr p1)),(2,(.fz 1 (x5.map eBool))),(7,(eI64 x6)),(8,(.fz 1 (t12.map eBool))),(9,(eBool b20)),(10,(eI64 x16))] ?_ ?_
      ·refine .a 2 ?_
       rcases oi q21 with⟨c22,q21⟩|⟨c22,q21⟩
       ·refine .a 2 ?_
        obtain⟨g23,q21⟩:=of_guard q21
        refine .a 4 ?_
        obtain⟨g24,q21⟩:=of_guard q21
        refine .a 2 ?_
        refine .cG (x:=eBool ((lget t12 x16)==(lget x5 x16))) rfl rfl (bD c22) (.boolEq rfl rfl rfl Try.underlying4) ?_
        refine .a 2 ?_
        cases q21
        refine .nilE rfl ?_
        exact⟨rfl,rfl,rfl,rfl,rfl,rfl,rfl,trivial⟩
       refine .a 11 ?_
       cases q21
       refine .nilE rfl ?_
       exact⟨rfl,rfl,rfl,rfl,rfl,rfl,rfl,trivial⟩
      refine .a 4 ?_
      refine .nK [0,1,2,7,8,9,10] ?_
      exact⟨kq18,Nat.lt_succ_self _,b20,(w64 (x16+(1:Int))),rfl,rfl,by rw[hrec17];exact h⟩
     refine .a 1 ?_
     refine .eK [0,1,7,8,9] ?_
     exact⟨b15,rfl,rfl,h⟩
    rintro _ _ ⟨b13,rfl,rfl,h⟩
    rw[F65b_c2.eq_1]at h
    refine .a 5 ?_
    rcases oi h with⟨c14,h⟩|⟨c14,h⟩
    ·refine .a 5 ?_
     refine .nK [6] ?_
     refine .rK [6] ?_
     have hr:=Option.some.inj h
     subst hr
     exact⟨[(.fz 1 (t12.map eBool))],⟨rfl,rfl,trivial⟩,rfl⟩
    refine .a 5 ?_
    refine .nK [0,1,2,7] ?_
    exact⟨t12,rfl,rfl,h⟩
   rintro _ _ ⟨x10,rfl,rfl,h⟩
   rw[F65b_c1.eq_1]at h
   refine .a 4 ?_
   refine .nK [0,1,2,7] ?_
   exact⟨kq8,Nat.lt_succ_self _,x10,(w64 (x6+(1:Int))),rfl,rfl,by rw[hrec7];exact h⟩
  refine .a 1 ?_
  refine .eK [2] ?_
  exact⟨x5,rfl,rfl,h⟩
 rintro _ _ ⟨x4,rfl,rfl,h⟩
 rw[F65b_c0.eq_1]at h
 refine .a 4 ?_
 refine .nK [6] ?_
 refine .rK [6] ?_
 have hr:=Option.some.inj h
 subst hr
 exact⟨[(.fz 1 (x4.map eBool))],⟨rfl,rfl,trivial⟩,rfl⟩
theorem F65a_spec {k:Nat} {p0:(List S131)} {p1:ByteArray} {p2:(List Bool)} {r:(List Bool)} (h:F65a k p0 p1 p2=some r):Spec Try.prog 65 [(.fz 5 (p0.map e131)),(eStr p1),(.fz 1 (p2.map eBool))] (e98 r):=(F65a_all k k).1 p0 p1 p2 r h
end Go.Avl.T7
namespace Go.Avl.T7
open Go Go.RowKit Go.Proofs Go.Avl
set_option linter.unusedVariables false
set_option maxRecDepth 100000
set_option maxHeartbeats 4000000
attribute [local irreducible] AW AO AQ Spec SpecH Calm
def F36 (k:Nat) (p0:(List S131)) (p1:ByteArray):Option Bool:=
 if 0≤(w64 ((p1.size:Int)+(1:Int)))∧(w64 ((p1.size:Int)+(1:Int)))*(1:Int)≤140737488355328∧(w64 ((p1.size:Int)+(1:Int)))≤9223372036854775807 then if 0≤(0:Int)∧(0:Int)<((List.replicate (w64 ((p1.size:Int)+(1:Int))).toNat false).length:Int)then(F65a k p0 p1 (lset (List.replicate (w64 ((p1.size:Int)+(1:Int))).toNat false) (0:Int) true)).bind fun t6=>
 if 0≤(p1.size:Int)∧(p1.size:Int)<(t6.length:Int)then some ((lget t6 (p1.size:Int)))
 else none
 else none
 else none
theorem F36_spec {k:Nat} {p0:(List S131)} {p1:ByteArray} {r:Bool} (h:F36 k p0 p1=some r):Spec Try.prog 36 [(.fz 5 (p0.map e131)),(eStr p1)] (eBool r):=by
 rw[F36.eq_1]at h
 refine Spec.intro (res:=[.tmp 4]) Try.func36 rfl rfl rfl (Nat.le_of_ble_eq_true rfl) ?_
 refine .a 9 ?_
 obtain⟨g4,h⟩:=of_guard h
 refine .makeL (f:=eBool) false rfl 9 rfl (by decide) rfl rfl rfl Try.underlying98 sz4 by4 zr4 lay4 rfl g4 fun n3=>?_
 refine .a 5 ?_
 obtain⟨g5,h⟩:=of_guard h
 refine .a 1 ?_
 refine .store 0 rfl rfl rfl rfl rfl rfl (.cast (.lidx (0:Int) true g5.1 g5.2 .here) (by omega)) rfl rfl sz4 rfl ?_
 refine .coe 5 (y':=(Z28 n3 (lset (List.replicate (w64 ((p1.size:Int)+(1:Int))).toNat false) (0:Int) true).length)) rfl (fun _ _ h=>lset_own h) ?_
 refine .coe 10 (y':=(Z28 n3 (lset (List.replicate (w64 ((p1.size:Int)+(1:Int))).toNat false) (0:Int) true).length)) rfl (fun _ _ h=>lset_own h) ?_
 refine .a 6 ?_
 obtain⟨t6,et6,h⟩:=ob h
 refine .freezeS 0 [(5,(Z29 (lset (List.replicate (w64 ((p1.size:Int)+(1:Int))).toNat false) (0:Int) true))),(14,(Z29 (lset (List.replicate (w64 ((p1.size:Int)+(1:Int))).toNat false) (0:Int) true)))] rfl ⟨fz_all rfl,fz_all rfl,trivial⟩ ?_
 refine .callS [(.fz 5 (p0.map e131)),(eStr p1),(Z29 (lset (List.replicate (w64 ((p1.size:Int)+(1:Int))).toNat false) (0:Int) true))] (.fz 1 (t6.map eBool)) 15 rfl (by decide) ok65 rfl rfl rfl ⟨rfl,rfl,rfl,rfl,rfl,rfl,trivial⟩ (F65a_spec et6) ?_
 refine .a 2 ?_
 obtain⟨g7,h⟩:=of_guard h
 refine .a 3 ?_
 refine .nK [4] ?_
 refine .rK [4] ?_
 cases h
 exact⟨[(eBool (lget t6 (p1.size:Int)))],⟨rfl,rfl,trivial⟩,rfl⟩
def F27_c0 (k:Nat):Option Bool:=
 some (true)
def F27_l1 (k:Nat) (p0:S55):Nat→Int→Option Bool
 | 0,_=>none
 | j+1,x7=>
   if x7<(p0.f1.length:Int)then if 0≤x7∧x7<(p0.f1.length:Int)then if(256:Int)<((lget p0.f1 x7).length:Int)then some (false)
   else(F27_l1 k p0 j) (w64 (x7+(1:Int)))
   else none
   else F27_c0 k
def F27 (k:Nat) (p0:S55):Option Bool:=
 Option.bind (α:=Bool) (if(20:Int)<(p0.f1.length:Int)then some (true)
 else some (decide ((30:Int)<(p0.f2.length:Int)))) fun b3=>
 if b3=true then some (false)
 else F27_l1 k p0 k (0:Int)
theorem F27_spec {k:Nat} {p0:S55} {r:Bool} (h:F27 k p0=some r):Spec Try.prog 27 [(e55 p0)] (eBool r):=by
 rw[F27.eq_1]at h
 refine Spec.intro (res:=[.tmp 2]) Try.func27 rfl rfl rfl (Nat.le_of_ble_eq_true rfl) ?_
 refine .sr ?_
 refine .box rfl 1 rfl (by decide) rfl rfl rfl fun n2=>?_
 refine .a 4 ?_
 obtain⟨b3,q4,h⟩:=ob h
 refine .regM [(1,(.ptr n2 0)),(13,(eBool b3))] [(n2,(.mem (e55 p0)))] ?_ ?_
 ·refine .a 5 ?_
  rcases oi q4 with⟨c5,q4⟩|⟨c5,q4⟩
  ·refine .a 5 ?_
   cases q4
   refine .nilE ⟨rfl,rfl⟩ ?_ ?_
   ·exact⟨rfl,rfl,trivial⟩
   exact(.refl _)
  refine .a 5 ?_
  cases q4
  refine .nilE ⟨rfl,rfl⟩ ?_ ?_
  ·exact⟨rfl,rfl,trivial⟩
  exact(.refl _)
 rcases oi h with⟨c6,h⟩|⟨c6,h⟩
 ·refine .a 4 ?_
  refine .nS [2] [] ?_
  refine .rK [2] ?_
  have hr:=Option.some.inj h
  subst hr
  exact⟨[(eBool false)],⟨rfl,rfl,trivial⟩,rfl⟩
 refine .a 1 ?_
 refine .sK [1] ?_
 refine .seq_mid (fun ρ H=>ρ=[]∧H=[]∧F27_c0 k=some r) ?_ ?_
 ·refine .a 5 ?_
  refine .wK [1,3] ?_
  refine .loop (fun kq ρ H=>∃ (x7:Int),ρ=[(1,(.ptr n2 0)),(3,(eI64 x7))]∧H=[(n2,(.mem (e55 p0)))]∧F27_l1 k p0 kq x7=some r) k ⟨(0:Int),rfl,rfl,h⟩ ?_
  rintro kq9 _ _ ⟨x7,rfl,rfl,h⟩
  cases kq9 with
  | zero=>rw[F27_l1.eq_1]at h;cases h
  | succ kq9=>
  rw[F27_l1.eq_2]at h
  generalize hrec8:F27_l1 k p0 kq9=rec8 at h
  refine .a 9 ?_
  rcases oi h with⟨c10,h⟩|⟨c10,h⟩
  ·refine .a 9 ?_
   obtain⟨g11,h⟩:=of_guard h
   refine .a 5 ?_
   rcases oi h with⟨c12,h⟩|⟨c12,h⟩
   ·refine .a 4 ?_
    refine .nS [2] [] ?_
    refine .rK [2] ?_
    have hr:=Option.some.inj h
    subst hr
    exact⟨[(eBool false)],⟨rfl,rfl,trivial⟩,rfl⟩
   refine .a 6 ?_
   refine .nK [1,3] ?_
   exact⟨kq9,Nat.lt_succ_self _,(w64 (x7+(1:Int))),rfl,rfl,by rw[hrec8];exact h⟩
  refine .a 1 ?_
  refine .eH [] (H':=[]) (.nil _) ?_
  exact⟨rfl,rfl,h⟩
 rintro _ _ ⟨rfl,rfl,h⟩
 rw[F27_c0.eq_1]at h
 refine .a 3 ?_
 refine .nK [2] ?_
 refine .rK [2] ?_
 have hr:=Option.some.inj h
 subst hr
 exact⟨[(eBool true)],⟨rfl,rfl,trivial⟩,rfl⟩
def F88 (k:Nat) (p0:S55) (p1:Int) (p2:Int):Option Int:=
 Option.bind (α:=Bool) (if(p0.f1.length:Int)≤p1 then some (true)
 else if 0≤p1∧p1<(p0.f1.length:Int)then if 0≤p2∧p2<((lget p0.f1 p1).length:Int)then some (decide ((lget (lget p0.f1 p1) p2)<(0:Int)))
 else none
 else none) fun b5=>
 if b5=true then some ((p0.f1.length:Int))
 else if 0≤p1∧p1<(p0.f1.length:Int)then if 0≤p2∧p2<((lget p0.f1 p1).length:Int)then some ((lget (lget p0.f1 p1) p2))
 else none
 else none
theorem F88_spec {k:Nat} {p0:S55} {p1:Int} {p2:Int} {r:Int} (h:F88 k p0 p1 p2=some r):Spec Try.prog 88 [(e55 p0),(eI64 p1),(eI64 p2)] (eI64 r):=by
 rw[F88.eq_1]at h
 refine Spec.intro (res:=[.tmp 6]) Try.func88 rfl rfl rfl (Nat.le_of_ble_eq_true rfl) ?_
 refine .sr ?_
 refine .box rfl 3 rfl (by decide) rfl rfl rfl fun n4=>?_
 refine .a 4 ?_
 obtain⟨b5,q6,h⟩:=ob h
 refine .regM [(1,(eI64 p1)),(2,(eI64 p2)),(3,(.ptr n4 0)),(22,(eBool b5))] [(n4,(.mem (e55 p0)))] ?_ ?_
 ·refine .a 6 ?_
  rcases oi q6 with⟨c7,q6⟩|⟨c7,q6⟩
  ·refine .a 10 ?_
   cases q6
   refine .nilE ⟨rfl,rfl⟩ ?_ ?_
   ·exact⟨rfl,rfl,rfl,rfl,trivial⟩
   exact(.refl _)
  refine .a 3 ?_
  obtain⟨g8,q6⟩:=of_guard q6
  refine .a 3 ?_
  obtain⟨g9,q6⟩:=of_guard q6
  refine .a 4 ?_
  cases q6
  refine .nilE ⟨rfl,rfl⟩ ?_ ?_
  ·exact⟨rfl,rfl,rfl,rfl,trivial⟩
  exact(.refl _)
 rcases oi h with⟨c10,h⟩|⟨c10,h⟩
 ·refine .a 7 ?_
  refine .nS [6] [] ?_
  refine .rK [6] ?_
  cases h
  exact⟨[(eI64 (p0.f1.length:Int))],⟨rfl,rfl,trivial⟩,rfl⟩
 refine .a 7 ?_
 obtain⟨g11,h⟩:=of_guard h
 refine .a 3 ?_
 obtain⟨g12,h⟩:=of_guard h
 refine .a 3 ?_
 refine .nS [6] [] ?_
 refine .rK [6] ?_
 cases h
 exact⟨[(eI64 (lget (lget p0.f1 p1) p2))],⟨rfl,rfl,trivial⟩,rfl⟩
def F66_c0 (k:Nat) (x6:(List (List Bool))):Option (List (List Bool)):=
 some (x6)
def F66_c1 (k:Nat) (rec11:((List (List Bool))→Int→Option (List (List Bool)))) (x10:Int) (x14:(List (List Bool))):Option (List (List Bool)):=
 rec11 x14 (w64 (x10+(1:Int)))
def F66_c2 (k:Nat) (rec19:((List (List Bool))→Int→Option (List (List Bool)))) (x18:Int) (x22:(List (List Bool))):Option (List (List Bool)):=
 rec19 x22 (w64 (x18+(1:Int)))
def F66_c3 (k:Nat) (rec27:((List (List Bool))→Int→Option (List (List Bool)))) (x26:Int) (x30:(List (List Bool))):Option (List (List Bool)):=
 rec27 x30 (w64 (x26+(1:Int)))
def F66_l4 (k:Nat) (rec27:((List (List Bool))→Int→Option (List (List Bool)))) (p0:S55) (x18:Int) (x26:Int):Nat→(List (List Bool))→Int→Option (List (List Bool))
 | 0,_,_=>none
 | j+1,x32,x34=>
   Option.bind (α:=Bool) (if 0≤(0:Int)∧(0:Int)<(p0.f1.length:Int)then if x34<((lget p0.f1 (0:Int)).length:Int)then if 0≤x18∧x18<(x32.length:Int)then if 0≤x26∧x26<((lget x32 x18).length:Int)then some (!(lget (lget x32 x18) x26))
   else none
   else none
   else some (false)
   else none) fun b37=>
   if b37=true then if 0≤x18∧x18<(x32.length:Int)then(F88 k p0 x18 x34).bind fun t45=>
   if 0≤t45∧t45<(x32.length:Int)then(F88 k p0 x26 x34).bind fun t47=>
   if 0≤t47∧t47<((lget x32 t45).length:Int)then if 0≤x26∧x26<((lget x32 x18).length:Int)then(F66_l4 k rec27 p0 x18 x26 j) (lset x32 x18 (lset (lget x32 x18) x26 (lget (lget x32 t45) t47))) (w64 (x34+(1:Int)))
   else none
   else none
   else none
   else none
   else F66_c3 k rec27 x26 x32
def F66_l5 (k:Nat) (rec19:((List (List Bool))→Int→Option (List (List Bool)))) (p0:S55) (x18:Int):Nat→(List (List Bool))→Int→Option (List (List Bool))
 | 0,_,_=>none
 | j+1,x24,x26=>
   if x26<(w64 ((p0.f1.length:Int)+(1:Int)))then F66_l4 k (F66_l5 k rec19 p0 x18 j) p0 x18 x26 k x24 (0:Int)
   else F66_c2 k rec19 x18 x24
def F66_l6 (k:Nat) (rec11:((List (List Bool))→Int→Option (List (List Bool)))) (p0:S55) (x10:Int):Nat→(List (List Bool))→Int→Option (List (List Bool))
 | 0,_,_=>none
 | j+1,x16,x18=>
   if x18<(w64 ((p0.f1.length:Int)+(1:Int)))then F66_l5 k (F66_l6 k rec11 p0 x10 j) p0 x18 k x16 (0:Int)
   else F66_c1 k rec11 x10 x16
def F66_l7 (k:Nat) (p0:S55):Nat→(List (List Bool))→Int→Option (List (List Bool))
 | 0,_,_=>none
 | j+1,x8,x10=>
   if x10<(w64 ((p0.f1.length:Int)+(1:Int)))then F66_l6 k (F66_l7 k p0 j) p0 x10 k x8 (0:Int)
   else F66_c0 k x8
def F66_c8 (k:Nat) (p0:S55) (x4:(List (List Bool))):Option (List (List Bool)):=
 F66_l7 k p0 k x4 (0:Int)
def F66_c9 (k:Nat) (rec54:((List (List Bool))→Int→Option (List (List Bool)))) (x53:Int) (x58:(List (List Bool))):Option (List (List Bool)):=
 rec54 x58 (w64 (x53+(1:Int)))
def F66_c10 (k:Nat) (rec54:((List (List Bool))→Int→Option (List (List Bool)))) (x51:(List (List Bool))) (x53:Int) (x62:(List Bool)):Option (List (List Bool)):=
 if(x51++[x62]).length*24≤140737488355328 then F66_c9 k rec54 x53 (x51++[x62])
 else none
def F66_l11 (k:Nat) (rec54:((List (List Bool))→Int→Option (List (List Bool)))) (p0:S55) (x51:(List (List Bool))) (x53:Int):Nat→(List Bool)→Int→Option (List (List Bool))
 | 0,_,_=>none
 | j+1,x66,x67=>
   if x67<(w64 ((p0.f1.length:Int)+(1:Int)))then(F34 k p0 x53).bind fun t71=>
   (F34 k p0 x67).bind fun t72=>
   if 0≤x67∧x67<(x66.length:Int)then(F66_l11 k rec54 p0 x51 x53 j) (lset x66 x67 (decide (t71≠t72))) (w64 (x67+(1:Int)))
   else none
   else F66_c10 k rec54 x51 x53 x66
def F66_l12 (k:Nat) (p0:S55):Nat→(List (List Bool))→Int→Option (List (List Bool))
 | 0,_,_=>none
 | j+1,x51,x53=>
   if x53<(w64 ((p0.f1.length:Int)+(1:Int)))then if 0≤(w64 ((p0.f1.length:Int)+(1:Int)))∧(w64 ((p0.f1.length:Int)+(1:Int)))*(1:Int)≤140737488355328∧(w64 ((p0.f1.length:Int)+(1:Int)))≤9223372036854775807 then F66_l11 k (F66_l12 k p0 j) p0 x51 x53 k (List.replicate (w64 ((p0.f1.length:Int)+(1:Int))).toNat false) (0:Int)
   else none
   else F66_c8 k p0 x51
def F66 (k:Nat) (p0:S55):Option (List (List Bool)):=
 F66_l12 k p0 k ([]:List (List Bool)) (0:Int)
theorem F66_spec {k:Nat} {p0:S55} {r:(List (List Bool))} (h:F66 k p0=some r):Spec Try.prog 66 [(e55 p0)] (e107 r):=by
 rw[F66.eq_1]at h
 refine Spec.intro (res:=[.tmp 2]) Try.func66 rfl rfl rfl (Nat.le_of_ble_eq_true rfl) ?_
 refine .sr ?_
 refine .box rfl 1 rfl (by decide) rfl rfl rfl fun n2=>?_
 refine .a 13 ?_
 refine .nK [1,3,4] ?_
 refine .seq_mid (fun ρ H=>∃ (n3:Nat) (ns5:(Nat→Nat)) (x4:(List (List Bool))),ρ=[(1,(.ptr n2 0)),(3,(eI64 (w64 ((p0.f1.length:Int)+(1:Int))))),(4,(.own n3 0 x4.length))]∧H=((n2,(.mem (e55 p0)))::(Z13 n3 (ownsF ns5 0 x4))::(famF 1 eBool ns5 0 x4++[]))∧F66_c8 k p0 x4=some r) ?_ ?_
 ·refine .a 5 ?_
  refine .nilOwn 4 1 rfl fun n74=>?_
  refine .heq (H':=((Z13 n74 (ownsF (fun _=>0) 0 ([]:List (List Bool))))::(n2,(.mem (e55 p0)))::(famF 1 eBool (fun _=>0) 0 ([]:List (List Bool))++[]))) rfl ?_
  refine .wH [1,3,4,5] (H':=((n2,(.mem (e55 p0)))::(Z13 n74 (ownsF (fun _=>0) 0 ([]:List (List Bool))))::(famF 1 eBool (fun _=>0) 0 ([]:List (List Bool))++[]))) (.cons 1 rfl (.cons 0 rfl (.refl _))) ?_
  refine .loop (fun kq ρ H=>∃ (n50:Nat) (ns52:(Nat→Nat)) (x51:(List (List Bool))) (x53:Int),ρ=[(1,(.ptr n2 0)),(3,(eI64 (w64 ((p0.f1.length:Int)+(1:Int))))),(4,(.own n50 0 x51.length)),(5,(eI64 x53))]∧H=((n2,(.mem (e55 p0)))::(Z13 n50 (ownsF ns52 0 x51))::(famF 1 eBool ns52 0 x51++[]))∧F66_l12 k p0 kq x51 x53=some r) k ⟨n74,(fun _=>0),([]:List (List Bool)),(0:Int),rfl,rfl,h⟩ ?_
  rintro kq55 _ _ ⟨n50,ns52,x51,x53,rfl,rfl,h⟩
  cases kq55 with
  | zero=>rw[F66_l12.eq_1]at h;cases h
  | succ kq55=>
  rw[F66_l12.eq_2]at h
  generalize hrec54:F66_l12 k p0 kq55=rec54 at h
  refine .a 7 ?_
  rcases oi h with⟨c56,h⟩|⟨c56,h⟩
  ·refine .a 1 ?_
   refine .sK [1,3,4,5] ?_
   refine .seq_mid (fun ρ H=>∃ (n57:Nat) (ns59:(Nat→Nat)) (x58:(List (List Bool))),ρ=[(1,(.ptr n2 0)),(3,(eI64 (w64 ((p0.f1.length:Int)+(1:Int))))),(4,(.own n57 0 x58.length)),(5,(eI64 x53))]∧H=((n2,(.mem (e55 p0)))::(Z13 n57 (ownsF ns59 0 x58))::(famF 1 eBool ns59 0 x58++[]))∧F66_c9 k rec54 x53 x58=some r) ?_ ?_
   ·refine .a 4 ?_
    obtain⟨g61,h⟩:=of_guard h
    refine .makeL (f:=eBool) false rfl 22 rfl (by decide) rfl rfl rfl Try.underlying98 sz4 by4 zr4 lay4 rfl g61 fun n60=>?_
    refine .a 1 ?_
    refine .nH [1,3,4,5,6] (H':=((n2,(.mem (e55 p0)))::(Z13 n50 (ownsF ns52 0 x51))::(Z9 n60 (List.replicate (w64 ((p0.f1.length:Int)+(1:Int))).toNat false))::(famF 1 eBool ns52 0 x51++[]))) (.cons 1 rfl (.cons 1 rfl (.cons 0 rfl (.refl _)))) ?_
    refine .seq_mid (fun ρ H=>∃ (x62:(List Bool)),ρ=[(1,(.ptr n2 0)),(3,(eI64 (w64 ((p0.f1.length:Int)+(1:Int))))),(4,(.own n50 0 x51.length)),(5,(eI64 x53)),(6,(.own n60 0 x62.length))]∧H=((n2,(.mem (e55 p0)))::(Z13 n50 (ownsF ns52 0 x51))::(Z9 n60 x62)::(famF 1 eBool ns52 0 x51++[]))∧F66_c10 k rec54 x51 x53 x62=some r) ?_ ?_
    ·refine .a 5 ?_
     refine .wK [1,3,4,5,6,7] ?_
     refine .loop (fun kq ρ H=>∃ (x66:(List Bool)) (x67:Int),ρ=[(1,(.ptr n2 0)),(3,(eI64 (w64 ((p0.f1.length:Int)+(1:Int))))),(4,(.own n50 0 x51.length)),(5,(eI64 x53)),(6,(.own n60 0 x66.length)),(7,(eI64 x67))]∧H=((n2,(.mem (e55 p0)))::(Z13 n50 (ownsF ns52 0 x51))::(Z9 n60 x66)::(famF 1 eBool ns52 0 x51++[]))∧F66_l11 k rec54 p0 x51 x53 kq x66 x67=some r) k ⟨(List.replicate (w64 ((p0.f1.length:Int)+(1:Int))).toNat false),(0:Int),rfl,rfl,h⟩ ?_
     rintro kq69 _ _ ⟨x66,x67,rfl,rfl,h⟩
     cases kq69 with
     | zero=>rw[F66_l11.eq_1]at h;cases h
     | succ kq69=>
     rw[F66_l11.eq_2]at h
     generalize hrec68:F66_l11 k rec54 p0 x51 x53 kq69=rec68 at h
     refine .a 7 ?_
     rcases oi h with⟨c70,h⟩|⟨c70,h⟩
     ·refine .a 4 ?_
      obtain⟨t71,et71,h⟩:=ob h
      obtain⟨t72,et72,h⟩:=ob h
      obtain⟨g73,h⟩:=of_guard h
      refine .regAnyL rfl rfl (by rfl) (by decide+kernel) (by decide+kernel) [(.own n60 0 x66.length),(eI64 x67),(e55 p0),(eI64 x53),(eI64 t71),(e55 p0),(eI64 x67),(eI64 t72),(eBool (decide (t71≠t72))),(.ptr n60 (x67.toNat*1+0))] [(1,(.ptr n2 0)),(3,(eI64 (w64 ((p0.f1.length:Int)+(1:Int))))),(4,(.own n50 0 x51.length)),(5,(eI64 x53)),(6,(.own n60 0 x66.length)),(7,(eI64 x67))] ⟨rfl,rfl,rfl,rfl,rfl,rfl,trivial⟩ rfl ?_ [(1,(.ptr n2 0)),(3,(eI64 (w64 ((p0.f1.length:Int)+(1:Int))))),(4,(.own n50 0 x51.length)),(5,(eI64 x53)),(6,(.own n60 0 x66.length)),(7,(eI64 x67)),(36,(eBool (decide (t71≠t72)))),(37,(.ptr n60 (x67.toNat*1+0)))] ⟨rfl,rfl,rfl,rfl,rfl,rfl,rfl,rfl,trivial⟩ ?_
      ·refine⟨?_,?_,?_,?_,?_,?_,?_,?_,?_,?_,trivial⟩
       ·refine .a 1 ?_
        exact .q 28
       ·refine .a 1 ?_
        exact .q 29
       ·refine .a 1 ?_
        exact .q 30
       ·refine .a 1 ?_
        exact .q 31
       ·refine .wK [30,31] ?_
        refine .callS [(e55 p0),(eI64 x53)] (eI64 t71) 32 rfl (by decide) ok34 rfl rfl rfl ⟨rfl,rfl,rfl,rfl,trivial⟩ (F34_spec et71) ?_
        exact .q 32
       ·refine .a 1 ?_
        exact .q 33
       ·refine .a 1 ?_
        exact .q 34
       ·refine .wK [33,34] ?_
        refine .callS [(e55 p0),(eI64 x67)] (eI64 t72) 35 rfl (by decide) ok34 rfl rfl rfl ⟨rfl,rfl,rfl,rfl,trivial⟩ (F34_spec et72) ?_
        exact .q 35
       ·refine .a 1 ?_
        exact .q 36
       refine .a 1 ?_
       exact .q 37
      refine .store 2 rfl rfl rfl rfl rfl rfl (.cast (.lidx x67 (decide (t71≠t72)) g73.1 g73.2 .here) (by omega)) rfl rfl sz4 rfl ?_
      refine .coe 6 (y':=(Z28 n60 (lset x66 x67 (decide (t71≠t72))).length)) rfl (fun _ _ h=>lset_own h) ?_
      refine .a 5 ?_
      refine .nK [1,3,4,5,6,7] ?_
      exact⟨kq69,Nat.lt_succ_self _,(lset x66 x67 (decide (t71≠t72))),(w64 (x67+(1:Int))),rfl,rfl,by rw[hrec68];exact h⟩
     refine .a 1 ?_
     refine .eK [1,3,4,5,6] ?_
     exact⟨x66,rfl,rfl,h⟩
    rintro _ _ ⟨x62,rfl,rfl,h⟩
    rw[F66_c10.eq_1]at h
    refine .a 3 ?_
    refine .lit (Z:=(.fl (.slice none 0 0))) (xs:=[(.own n60 0 x62.length)]) (qs:=[(0,(.own n60 0 x62.length))]) rfl 40 rfl (by decide) rfl ⟨rfl,rfl,rfl,trivial⟩ Try.underlying107 sz98 zr98 lay98 rfl (by decide) (litOK (z:=1) [(.own n60 0 x62.length)] rfl ⟨⟨rfl,rfl⟩,trivial⟩) rfl fun n63=>?_
    obtain⟨g65,h⟩:=of_guard h
    refine .appendF (ns:=ns52) (x:=x51) (m:=n60) (r:=x62) 2 0 41 rfl (by decide) rfl rfl rfl rfl rfl rfl Try.underlying107 Try.underlying107 sz98 by98 zr98 rfl g65 (by decide) fun n64=>?_
    refine .wH [1,3,5,41] (H':=((n2,(.mem (e55 p0)))::(Z13 n64 (ownsF (updN ns52 x51.length n60) 0 (x51++[x62])))::(famF 1 eBool (updN ns52 x51.length n60) 0 (x51++[x62])++[]))) (.cons 1 rfl (.cons 1 rfl ((famSub 1 eBool ns52 x51 n60 x62 _).trans (.cons 1 rfl (.drop (.refl _)))))) ?_
    refine .a 1 ?_
    refine .nK [1,3,4,5] ?_
    exact⟨n64,(updN ns52 x51.length n60),(x51++[x62]),rfl,rfl,h⟩
   rintro _ _ ⟨n57,ns59,x58,rfl,rfl,h⟩
   rw[F66_c9.eq_1]at h
   refine .a 4 ?_
   refine .nK [1,3,4,5] ?_
   exact⟨kq55,Nat.lt_succ_self _,n57,ns59,x58,(w64 (x53+(1:Int))),rfl,rfl,by rw[hrec54];exact h⟩
  refine .a 1 ?_
  refine .eK [1,3,4] ?_
  exact⟨n50,ns52,x51,rfl,rfl,h⟩
 rintro _ _ ⟨n3,ns5,x4,rfl,rfl,h⟩
 rw[F66_c8.eq_1]at h
 refine .seq_mid (fun ρ H=>∃ (ns7:(Nat→Nat)) (x6:(List (List Bool))),ρ=[(4,(.own n3 0 x6.length))]∧H=((Z13 n3 (ownsF ns7 0 x6))::(famF 1 eBool ns7 0 x6++[]))∧F66_c0 k x6=some r) ?_ ?_
 ·refine .a 5 ?_
  refine .wK [1,3,4,8] ?_
  refine .loop (fun kq ρ H=>∃ (ns9:(Nat→Nat)) (x8:(List (List Bool))) (x10:Int),ρ=[(1,(.ptr n2 0)),(3,(eI64 (w64 ((p0.f1.length:Int)+(1:Int))))),(4,(.own n3 0 x8.length)),(8,(eI64 x10))]∧H=((n2,(.mem (e55 p0)))::(Z13 n3 (ownsF ns9 0 x8))::(famF 1 eBool ns9 0 x8++[]))∧F66_l7 k p0 kq x8 x10=some r) k ⟨ns5,x4,(0:Int),rfl,rfl,h⟩ ?_
  rintro kq12 _ _ ⟨ns9,x8,x10,rfl,rfl,h⟩
  cases kq12 with
  | zero=>rw[F66_l7.eq_1]at h;cases h
  | succ kq12=>
  rw[F66_l7.eq_2]at h
  generalize hrec11:F66_l7 k p0 kq12=rec11 at h
  refine .a 7 ?_
  rcases oi h with⟨c13,h⟩|⟨c13,h⟩
  ·refine .a 1 ?_
   refine .sK [1,3,4,8] ?_
   refine .seq_mid (fun ρ H=>∃ (ns15:(Nat→Nat)) (x14:(List (List Bool))),ρ=[(1,(.ptr n2 0)),(3,(eI64 (w64 ((p0.f1.length:Int)+(1:Int))))),(4,(.own n3 0 x14.length)),(8,(eI64 x10))]∧H=((n2,(.mem (e55 p0)))::(Z13 n3 (ownsF ns15 0 x14))::(famF 1 eBool ns15 0 x14++[]))∧F66_c1 k rec11 x10 x14=some r) ?_ ?_
   ·refine .a 6 ?_
    refine .wK [1,3,4,8,9] ?_
    refine .loop (fun kq ρ H=>∃ (ns17:(Nat→Nat)) (x16:(List (List Bool))) (x18:Int),ρ=[(1,(.ptr n2 0)),(3,(eI64 (w64 ((p0.f1.length:Int)+(1:Int))))),(4,(.own n3 0 x16.length)),(8,(eI64 x10)),(9,(eI64 x18))]∧H=((n2,(.mem (e55 p0)))::(Z13 n3 (ownsF ns17 0 x16))::(famF 1 eBool ns17 0 x16++[]))∧F66_l6 k rec11 p0 x10 kq x16 x18=some r) k ⟨ns9,x8,(0:Int),rfl,rfl,h⟩ ?_
    rintro kq20 _ _ ⟨ns17,x16,x18,rfl,rfl,h⟩
    cases kq20 with
    | zero=>rw[F66_l6.eq_1]at h;cases h
    | succ kq20=>
    rw[F66_l6.eq_2]at h
    generalize hrec19:F66_l6 k rec11 p0 x10 kq20=rec19 at h
    refine .a 7 ?_
    rcases oi h with⟨c21,h⟩|⟨c21,h⟩
    ·refine .a 1 ?_
     refine .sK [1,3,4,8,9] ?_
     refine .seq_mid (fun ρ H=>∃ (ns23:(Nat→Nat)) (x22:(List (List Bool))),ρ=[(1,(.ptr n2 0)),(3,(eI64 (w64 ((p0.f1.length:Int)+(1:Int))))),(4,(.own n3 0 x22.length)),(8,(eI64 x10)),(9,(eI64 x18))]∧H=((n2,(.mem (e55 p0)))::(Z13 n3 (ownsF ns23 0 x22))::(famF 1 eBool ns23 0 x22++[]))∧F66_c2 k rec19 x18 x22=some r) ?_ ?_
     ·refine .a 6 ?_
      refine .wK [1,3,4,8,9,10] ?_
      refine .loop (fun kq ρ H=>∃ (ns25:(Nat→Nat)) (x24:(List (List Bool))) (x26:Int),ρ=[(1,(.ptr n2 0)),(3,(eI64 (w64 ((p0.f1.length:Int)+(1:Int))))),(4,(.own n3 0 x24.length)),(8,(eI64 x10)),(9,(eI64 x18)),(10,(eI64 x26))]∧H=((n2,(.mem (e55 p0)))::(Z13 n3 (ownsF ns25 0 x24))::(famF 1 eBool ns25 0 x24++[]))∧F66_l5 k rec19 p0 x18 kq x24 x26=some r) k ⟨ns17,x16,(0:Int),rfl,rfl,h⟩ ?_
      rintro kq28 _ _ ⟨ns25,x24,x26,rfl,rfl,h⟩
      cases kq28 with
      | zero=>rw[F66_l5.eq_1]at h;cases h
      | succ kq28=>
      rw[F66_l5.eq_2]at h
      generalize hrec27:F66_l5 k rec19 p0 x18 kq28=rec27 at h
      refine .a 7 ?_
      rcases oi h with⟨c29,h⟩|⟨c29,h⟩
      ·refine .a 1 ?_
       refine .sK [1,3,4,8,9,10] ?_
       refine .seq_mid (fun ρ H=>∃ (ns31:(Nat→Nat)) (x30:(List (List Bool))),ρ=[(1,(.ptr n2 0)),(3,(eI64 (w64 ((p0.f1.length:Int)+(1:Int))))),(4,(.own n3 0 x30.length)),(8,(eI64 x10)),(9,(eI64 x18)),(10,(eI64 x26))]∧H=((n2,(.mem (e55 p0)))::(Z13 n3 (ownsF ns31 0 x30))::(famF 1 eBool ns31 0 x30++[]))∧F66_c3 k rec27 x26 x30=some r) ?_ ?_
       ·refine .a 6 ?_
        refine .wK [1,3,4,8,9,10,11] ?_
        refine .loop (fun kq ρ H=>∃ (ns33:(Nat→Nat)) (x32:(List (List Bool))) (x34:Int),ρ=[(1,(.ptr n2 0)),(3,(eI64 (w64 ((p0.f1.length:Int)+(1:Int))))),(4,(.own n3 0 x32.length)),(8,(eI64 x10)),(9,(eI64 x18)),(10,(eI64 x26)),(11,(eI64 x34))]∧H=((n2,(.mem (e55 p0)))::(Z13 n3 (ownsF ns33 0 x32))::(famF 1 eBool ns33 0 x32++[]))∧F66_l4 k rec27 p0 x18 x26 kq x32 x34=some r) k ⟨ns25,x24,(0:Int),rfl,rfl,h⟩ ?_
        rintro kq36 _ _ ⟨ns33,x32,x34,rfl,rfl,h⟩
        cases kq36 with
        | zero=>rw[F66_l4.eq_1]at h;cases h
        | succ kq36=>
        rw[F66_l4.eq_2]at h
        generalize hrec35:F66_l4 k rec27 p0 x18 x26 kq36=rec35 at h
        refine .a 2 ?_
        obtain⟨b37,q38,h⟩:=ob h
        refine .regM [(1,(.ptr n2 0)),(3,(eI64 (w64 ((p0.f1.length:Int)+(1:Int))))),(4,(.own n3 0 x32.length)),(8,(eI64 x10)),(9,(eI64 x18)),(10,(eI64 x26)),(11,(eI64 x34)),(73,(eBool b37))] ((n2,(.mem (e55 p0)))::(Z13 n3 (ownsF ns33 0 x32))::(famF 1 eBool ns33 0 x32++[])) ?_ ?_
        ·refine .a 3 ?_
         obtain⟨g39,q38⟩:=of_guard q38
         refine .a 5 ?_
         rcases oi q38 with⟨c40,q38⟩|⟨c40,q38⟩
         ·refine .a 2 ?_
          obtain⟨g41,q38⟩:=of_guard q38
          refine .cG (x:=.ptr n3 (x18.toNat*1+0)) rfl rfl (bD (decide_eq_true c40)) (.idxF 1 rfl rfl rfl rfl g41 Try.underlying107 sz98) ?_
          refine .cG rfl rfl (bD (decide_eq_true c40)) (.load 1 rfl rfl rfl (.cast (.ownF g41) rfl) ag98 sz98) ?_
          refine .cG rfl rfl (bD (decide_eq_true c40)) (.move rfl rfl) ?_
          obtain⟨g42,q38⟩:=of_guard q38
          refine .cG rfl rfl (bD (decide_eq_true c40)) (.idxO (f:=eBool) (l:=lget x32 x18) (x18.toNat+2) rfl rfl rfl (consAt (consAt (famAt g41))) g42 Try.underlying98 sz4) ?_
          refine .cG rfl rfl (bD (decide_eq_true c40)) (.load (x18.toNat+2) rfl rfl (consAt (consAt (famAt g41))) (.cast (.lidx x26 g42.1 g42.2 .here) rfl) ag4 sz4) ?_
          refine .a 2 ?_
          cases q38
          refine .nilE ⟨rfl,rfl⟩ ?_ ?_
          ·exact⟨rfl,rfl,rfl,rfl,rfl,rfl,rfl,rfl,trivial⟩
          exact(.refl _)
         refine .a 9 ?_
         cases q38
         refine .nilE ⟨rfl,rfl⟩ ?_ ?_
         ·exact⟨rfl,rfl,rfl,rfl,rfl,rfl,rfl,rfl,trivial⟩
         exact(.refl _)
        rcases oi h with⟨c43,h⟩|⟨c43,h⟩
        ·refine .a 4 ?_
         obtain⟨g44,h⟩:=of_guard h
         obtain⟨t45,et45,h⟩:=ob h
         obtain⟨g46,h⟩:=of_guard h
         obtain⟨t47,et47,h⟩:=ob h
         obtain⟨g48,h⟩:=of_guard h
         obtain⟨g49,h⟩:=of_guard h
         refine .regAnyL rfl rfl (by rfl) (by decide+kernel) (by decide+kernel) [(.own n3 0 x32.length),(eI64 x18),(.ptr n3 (x18.toNat*1+0)),(Z28 (ns33 x18.toNat) (lget x32 x18).length),(eI64 x26),(.own n3 0 x32.length),(e55 p0),(eI64 x18),(eI64 x34),(eI64 t45),(.ptr n3 (t45.toNat*1+0)),(Z28 (ns33 t45.toNat) (lget x32 t45).length),(e55 p0),(eI64 x26),(eI64 x34),(eI64 t47),(.ptr (ns33 t45.toNat) (t47.toNat*1+0)),(eBool (lget (lget x32 t45) t47)),(.ptr (ns33 x18.toNat) (x26.toNat*1+0))] [(1,(.ptr n2 0)),(3,(eI64 (w64 ((p0.f1.length:Int)+(1:Int))))),(4,(.own n3 0 x32.length)),(8,(eI64 x10)),(9,(eI64 x18)),(10,(eI64 x26)),(11,(eI64 x34))] ⟨rfl,rfl,rfl,rfl,rfl,rfl,rfl,trivial⟩ rfl ?_ [(1,(.ptr n2 0)),(3,(eI64 (w64 ((p0.f1.length:Int)+(1:Int))))),(4,(.own n3 0 x32.length)),(8,(eI64 x10)),(9,(eI64 x18)),(10,(eI64 x26)),(11,(eI64 x34)),(93,(eBool (lget (lget x32 t45) t47))),(94,(.ptr (ns33 x18.toNat) (x26.toNat*1+0)))] ⟨rfl,rfl,rfl,rfl,rfl,rfl,rfl,rfl,rfl,trivial⟩ ?_
         ·refine⟨?_,?_,?_,?_,?_,?_,?_,?_,?_,?_,?_,?_,?_,?_,?_,?_,?_,?_,?_,trivial⟩
          ·refine .a 1 ?_
           exact .q 76
          ·refine .a 1 ?_
           exact .q 77
          ·refine .wK [76,77] ?_
           refine .c (x:=.ptr n3 (x18.toNat*1+0)) (.idxF 1 rfl rfl rfl rfl g44 Try.underlying107 sz98) ?_
           exact .q 78
          ·refine .wK [78] ?_
           refine .c (.load 1 rfl rfl rfl (.cast (.ownF g44) rfl) ag98 sz98) ?_
           exact .q 79
          ·refine .a 1 ?_
           exact .q 80
          ·refine .a 1 ?_
           exact .q 81
          ·refine .a 1 ?_
           exact .q 82
          ·refine .a 1 ?_
           exact .q 83
          ·refine .a 1 ?_
           exact .q 84
          ·refine .wK [82,83,84] ?_
           refine .callS [(e55 p0),(eI64 x18),(eI64 x34)] (eI64 t45) 85 rfl (by decide) ok88 rfl rfl rfl ⟨rfl,rfl,rfl,rfl,rfl,rfl,trivial⟩ (F88_spec et45) ?_
           exact .q 85
          ·refine .wK [81,85] ?_
           refine .c (x:=.ptr n3 (t45.toNat*1+0)) (.idxF 1 rfl rfl rfl rfl g46 Try.underlying107 sz98) ?_
           exact .q 86
          ·refine .wK [86] ?_
           refine .c (.load 1 rfl rfl rfl (.cast (.ownF g46) rfl) ag98 sz98) ?_
           exact .q 87
          ·refine .a 1 ?_
           exact .q 88
          ·refine .a 1 ?_
           exact .q 89
          ·refine .a 1 ?_
           exact .q 90
          ·refine .wK [88,89,90] ?_
           refine .callS [(e55 p0),(eI64 x26),(eI64 x34)] (eI64 t47) 91 rfl (by decide) ok88 rfl rfl rfl ⟨rfl,rfl,rfl,rfl,rfl,rfl,trivial⟩ (F88_spec et47) ?_
           exact .q 91
          ·refine .wK [87,91] ?_
           refine .c (.idxO (f:=eBool) (l:=lget x32 t45) (t45.toNat+2) rfl rfl rfl (consAt (consAt (famAt g46))) g48 Try.underlying98 sz4) ?_
           exact .q 92
          ·refine .wK [92] ?_
           refine .c (.load (t45.toNat+2) rfl rfl (consAt (consAt (famAt g46))) (.cast (.lidx t47 g48.1 g48.2 .here) rfl) ag4 sz4) ?_
           exact .q 93
          refine .wK [79,80] ?_
          refine .c (.idxO (f:=eBool) (l:=lget x32 x18) (x18.toNat+2) rfl rfl rfl (consAt (consAt (famAt g44))) g49 Try.underlying98 sz4) ?_
          exact .q 94
         refine .store (x18.toNat+2) rfl rfl rfl rfl rfl (consAt (consAt (famAt g44))) (.cast (.lidx x26 (lget (lget x32 t45) t47) g49.1 g49.2 .here) rfl) rfl rfl sz4 rfl ?_
         refine .heq (H':=((n2,(.mem (e55 p0)))::(Z13 n3 (ownsF ns33 0 x32))::(famF 1 eBool ns33 0 (lset x32 x18 (lset (lget x32 x18) x26 (lget (lget x32 t45) t47)))++[]))) ((consEq (consEq (famSet g44)))) ?_
         refine .heq (H':=((n2,(.mem (e55 p0)))::(Z13 n3 (ownsF ns33 0 (lset x32 x18 (lset (lget x32 x18) x26 (lget (lget x32 t45) t47)))))::(famF 1 eBool ns33 0 (lset x32 x18 (lset (lget x32 x18) x26 (lget (lget x32 t45) t47)))++[]))) (by rw[ownSet g44 (by simp[lset])]) ?_
         refine .coe 4 (y':=(Z28 n3 (lset x32 x18 (lset (lget x32 x18) x26 (lget (lget x32 t45) t47))).length)) rfl (fun _ _ h=>own_len (by simp[lset]) h) ?_
         refine .a 5 ?_
         refine .nK [1,3,4,8,9,10,11] ?_
         exact⟨kq36,Nat.lt_succ_self _,ns33,(lset x32 x18 (lset (lget x32 x18) x26 (lget (lget x32 t45) t47))),(w64 (x34+(1:Int))),rfl,rfl,by rw[hrec35];exact h⟩
        refine .a 1 ?_
        refine .eK [1,3,4,8,9,10] ?_
        exact⟨ns33,x32,rfl,rfl,h⟩
       rintro _ _ ⟨ns31,x30,rfl,rfl,h⟩
       rw[F66_c3.eq_1]at h
       refine .a 4 ?_
       refine .nK [1,3,4,8,9,10] ?_
       exact⟨kq28,Nat.lt_succ_self _,ns31,x30,(w64 (x26+(1:Int))),rfl,rfl,by rw[hrec27];exact h⟩
      refine .a 1 ?_
      refine .eK [1,3,4,8,9] ?_
      exact⟨ns25,x24,rfl,rfl,h⟩
     rintro _ _ ⟨ns23,x22,rfl,rfl,h⟩
     rw[F66_c2.eq_1]at h
     refine .a 4 ?_
     refine .nK [1,3,4,8,9] ?_
     exact⟨kq20,Nat.lt_succ_self _,ns23,x22,(w64 (x18+(1:Int))),rfl,rfl,by rw[hrec19];exact h⟩
    refine .a 1 ?_
    refine .eK [1,3,4,8] ?_
    exact⟨ns17,x16,rfl,rfl,h⟩
   rintro _ _ ⟨ns15,x14,rfl,rfl,h⟩
   rw[F66_c1.eq_1]at h
   refine .a 4 ?_
   refine .nK [1,3,4,8] ?_
   exact⟨kq12,Nat.lt_succ_self _,ns15,x14,(w64 (x10+(1:Int))),rfl,rfl,by rw[hrec11];exact h⟩
  refine .a 1 ?_
  refine .eH [4] (H':=((Z13 n3 (ownsF ns9 0 x8))::(famF 1 eBool ns9 0 x8++[]))) (.cons 1 rfl (.drop (.refl _))) ?_
  exact⟨ns9,x8,rfl,rfl,h⟩
 rintro _ _ ⟨ns7,x6,rfl,rfl,h⟩
 rw[F66_c0.eq_1]at h
 refine .a 4 ?_
 refine .nK [2] ?_
 refine .wH [2] (H':=((Z13 n3 (ownsF ns7 0 x6))::(famF 1 eBool ns7 0 x6++[]))) (.cons 0 rfl (.refl _)) ?_
 refine .famFz0 ?_
 refine .freezeS 0 [(2,(.fz 1 (x6.map e98)))] rfl ⟨fz_all rfl,trivial⟩ ?_
 refine .rK [2] ?_
 have hr:=Option.some.inj h
 subst hr
 exact⟨[(.fz 1 (x6.map e98))],⟨rfl,rfl,trivial⟩,rfl⟩
def F37_c0 (k:Nat):Option Bool:=
 some (true)
def F37_c1 (k:Nat) (rec5:(Int→Option Bool)) (x4:Int):Option Bool:=
 rec5 (w64 (x4+(1:Int)))
def F37_c2 (k:Nat) (rec5:(Int→Option Bool)) (p0:S55) (t3:(List (List Bool))) (x4:Int):Option Bool:=
 Option.bind (α:=Bool) (if 0≤x4∧x4<(t3.length:Int)then if 0≤(p0.f1.length:Int)∧(p0.f1.length:Int)<((lget t3 x4).length:Int)then if(!(lget (lget t3 x4) (p0.f1.length:Int)))=true then some (decide ((1:Int)<(p0.f1.length:Int)))
 else some (false)
 else none
 else none) fun b8=>
 if b8=true then some (false)
 else F37_c1 k rec5 x4
def F37_l3 (k:Nat) (rec5:(Int→Option Bool)) (p0:S55) (t3:(List (List Bool))) (x4:Int):Nat→Int→Option Bool
 | 0,_=>none
 | j+1,x14=>
   if x14<x4 then if 0≤x4∧x4<(t3.length:Int)then if 0≤x14∧x14<((lget t3 x4).length:Int)then if(!(lget (lget t3 x4) x14))=true then some (false)
   else(F37_l3 k rec5 p0 t3 x4 j) (w64 (x14+(1:Int)))
   else none
   else none
   else F37_c2 k rec5 p0 t3 x4
def F37_l4 (k:Nat) (p0:S55) (t3:(List (List Bool))):Nat→Int→Option Bool
 | 0,_=>none
 | j+1,x4=>
   if x4<(p0.f1.length:Int)then F37_l3 k (F37_l4 k p0 t3 j) p0 t3 x4 k (0:Int)
   else F37_c0 k
def F37 (k:Nat) (p0:S55):Option Bool:=
 (F66 k p0).bind fun t3=>
 F37_l4 k p0 t3 k (0:Int)
theorem F37_spec {k:Nat} {p0:S55} {r:Bool} (h:F37 k p0=some r):Spec Try.prog 37 [(e55 p0)] (eBool r):=by
 rw[F37.eq_1]at h
 refine Spec.intro (res:=[.tmp 2]) Try.func37 rfl rfl rfl (Nat.le_of_ble_eq_true rfl) ?_
 refine .sr ?_
 refine .box rfl 1 rfl (by decide) rfl rfl rfl fun n2=>?_
 refine .a 5 ?_
 obtain⟨t3,et3,h⟩:=ob h
 refine .callS [(e55 p0)] (.fz 1 (t3.map e98)) 7 rfl (by decide) ok66 rfl rfl rfl ⟨rfl,rfl,trivial⟩ (F66_spec et3) ?_
 refine .a 1 ?_
 refine .nK [1,3] ?_
 refine .seq_mid (fun ρ H=>ρ=[]∧H=[]∧F37_c0 k=some r) ?_ ?_
 ·refine .a 5 ?_
  refine .wK [1,3,4] ?_
  refine .loop (fun kq ρ H=>∃ (x4:Int),ρ=[(1,(.ptr n2 0)),(3,(.fz 1 (t3.map e98))),(4,(eI64 x4))]∧H=[(n2,(.mem (e55 p0)))]∧F37_l4 k p0 t3 kq x4=some r) k ⟨(0:Int),rfl,rfl,h⟩ ?_
  rintro kq6 _ _ ⟨x4,rfl,rfl,h⟩
  cases kq6 with
  | zero=>rw[F37_l4.eq_1]at h;cases h
  | succ kq6=>
  rw[F37_l4.eq_2]at h
  generalize hrec5:F37_l4 k p0 t3 kq6=rec5 at h
  refine .a 9 ?_
  rcases oi h with⟨c7,h⟩|⟨c7,h⟩
  ·refine .a 1 ?_
   refine .sK [1,3,4] ?_
   refine .seq_mid (fun ρ H=>ρ=[(1,(.ptr n2 0)),(3,(.fz 1 (t3.map e98))),(4,(eI64 x4))]∧H=[(n2,(.mem (e55 p0)))]∧F37_c1 k rec5 x4=some r) ?_ ?_
   ·refine .a 1 ?_
    refine .seq_mid (fun ρ H=>ρ=[(1,(.ptr n2 0)),(3,(.fz 1 (t3.map e98))),(4,(eI64 x4))]∧H=[(n2,(.mem (e55 p0)))]∧F37_c2 k rec5 p0 t3 x4=some r) ?_ ?_
    ·refine .a 5 ?_
     refine .wK [1,3,4,5] ?_
     refine .loop (fun kq ρ H=>∃ (x14:Int),ρ=[(1,(.ptr n2 0)),(3,(.fz 1 (t3.map e98))),(4,(eI64 x4)),(5,(eI64 x14))]∧H=[(n2,(.mem (e55 p0)))]∧F37_l3 k rec5 p0 t3 x4 kq x14=some r) k ⟨(0:Int),rfl,rfl,h⟩ ?_
     rintro kq16 _ _ ⟨x14,rfl,rfl,h⟩
     cases kq16 with
     | zero=>rw[F37_l3.eq_1]at h;cases h
     | succ kq16=>
     rw[F37_l3.eq_2]at h
     generalize hrec15:F37_l3 k rec5 p0 t3 x4 kq16=rec15 at h
     refine .a 7 ?_
     rcases oi h with⟨c17,h⟩|⟨c17,h⟩
     ·refine .a 8 ?_
      obtain⟨g18,h⟩:=of_guard h
      refine .a 3 ?_
      obtain⟨g19,h⟩:=of_guard h
      refine .a 4 ?_
      rcases oi h with⟨c20,h⟩|⟨c20,h⟩
      ·refine .a 4 ?_
       refine .nS [2] [] ?_
       refine .rK [2] ?_
       have hr:=Option.some.inj h
       subst hr
       exact⟨[(eBool false)],⟨rfl,rfl,trivial⟩,rfl⟩
      refine .a 6 ?_
      refine .nK [1,3,4,5] ?_
      exact⟨kq16,Nat.lt_succ_self _,(w64 (x14+(1:Int))),rfl,rfl,by rw[hrec15];exact h⟩
     refine .a 1 ?_
     refine .eK [1,3,4] ?_
     exact⟨rfl,rfl,h⟩
    rintro _ _ ⟨rfl,rfl,h⟩
    rw[F37_c2.eq_1]at h
    refine .seq ?_
    obtain⟨b8,q9,h⟩:=ob h
    refine .regQM (by rfl) (by decide+kernel) [(1,(.ptr n2 0)),(3,(.fz 1 (t3.map e98))),(4,(eI64 x4)),(43,(eBool b8))] ?_ ?_
    ·refine .a 2 ?_
     obtain⟨g10,q9⟩:=of_guard q9
     refine .a 5 ?_
     obtain⟨g11,q9⟩:=of_guard q9
     refine .a 4 ?_
     rcases oi q9 with⟨c12,q9⟩|⟨c12,q9⟩
     ·refine .a 5 ?_
      cases q9
      refine .nilE rfl ?_
      exact⟨rfl,rfl,rfl,rfl,trivial⟩
     refine .a 5 ?_
     cases q9
     refine .nilE rfl ?_
     exact⟨rfl,rfl,rfl,rfl,trivial⟩
    rcases oi h with⟨c13,h⟩|⟨c13,h⟩
    ·refine .a 4 ?_
     refine .nS [2] [] ?_
     refine .rK [2] ?_
     have hr:=Option.some.inj h
     subst hr
     exact⟨[(eBool false)],⟨rfl,rfl,trivial⟩,rfl⟩
    refine .a 1 ?_
    refine .sK [1,3,4] ?_
    exact⟨rfl,rfl,h⟩
   rintro _ _ ⟨rfl,rfl,h⟩
   rw[F37_c1.eq_1]at h
   refine .a 4 ?_
   refine .nK [1,3,4] ?_
   exact⟨kq6,Nat.lt_succ_self _,(w64 (x4+(1:Int))),rfl,rfl,by rw[hrec5];exact h⟩
  refine .a 1 ?_
  refine .eH [] (H':=[]) (.nil _) ?_
  exact⟨rfl,rfl,h⟩
 rintro _ _ ⟨rfl,rfl,h⟩
 rw[F37_c0.eq_1]at h
 refine .a 3 ?_
 refine .nK [2] ?_
 refine .rK [2] ?_
 have hr:=Option.some.inj h
 subst hr
 exact⟨[(eBool true)],⟨rfl,rfl,trivial⟩,rfl⟩
def F7 (k:Nat) (p0:ByteArray) (p1:ByteArray):Option Bool:=
 (F26 k).bind fun t3=>
 if(!t3)=true then some (false)
 else Option.bind (α:=Bool) (if(40:Int)<(p0.size:Int)then some (true)
 else some (decide ((20:Int)<(p1.size:Int)))) fun b5=>
 if b5=true then some (true)
 else(F32 k p0).bind fun t9=>
 (F33 k p0).bind fun t11=>
 Option.bind (α:=Bool) (if t11.2≠(0:Int)then some (true)
 else some (decide (t9.2=(6:Int)))) fun b12=>
 if b12=true then Option.bind (α:=Bool) (if t9.2=t11.2 then some (decide ((t9.1.f1.length:Int)=(0:Int)))
 else if t9.2=(6:Int)then some (decide ((t9.1.f1.length:Int)=(0:Int)))
 else some (false)) fun b16=>
 some (b16)
 else Option.bind (α:=Bool) (if t9.2≠(0:Int)then some (true)
 else(F28 k t9.1).bind fun t23=>
 some (!t23)) fun b20=>
 if b20=true then some (false)
 else(F35 k t9.1 (0:Int) p1).bind fun t25=>
 (F34 k t9.1 t25).bind fun t26=>
 Option.bind (α:=Bool) ((F36 k t11.1 p1).bind fun t29=>
 if((decide ((0:Int)≤t26)) != t29)=true then some (true)
 else some (decide ((0:Int)<t26))) fun b27=>
 if b27=true then some (false)
 else Option.bind (α:=Bool) ((F27 k t9.1).bind fun t34=>
 if(!t34)=true then some (true)
 else(F37 k t9.1).bind fun t36=>
 some (t36)) fun b32=>
 some (b32)
theorem F7_spec {k:Nat} {p0:ByteArray} {p1:ByteArray} {r:Bool} (h:F7 k p0 p1=some r):Spec Try.prog 7 [(eStr p0),(eStr p1)] (eBool r):=by
 rw[F7.eq_1]at h
 refine Spec.intro (res:=[.tmp 4]) Try.func7 rfl rfl rfl (Nat.le_of_ble_eq_true rfl) ?_
 refine .a 7 ?_
 obtain⟨t3,et3,h⟩:=ob h
 refine .callS [] (eBool t3) 10 rfl (by decide) ok26 rfl rfl rfl trivial (F26_spec et3) ?_
 refine .a 2 ?_
 rcases oi h with⟨c4,h⟩|⟨c4,h⟩
 ·refine .a 4 ?_
  refine .nK [4] ?_
  refine .rK [4] ?_
  have hr:=Option.some.inj h
  subst hr
  exact⟨[(eBool false)],⟨rfl,rfl,trivial⟩,rfl⟩
 refine .a 4 ?_
 obtain⟨b5,q6,h⟩:=ob h
 refine .regM [(0,(eStr p0)),(1,(eStr p1)),(19,(eBool b5))] [] ?_ ?_
 ·refine .a 4 ?_
  rcases oi q6 with⟨c7,q6⟩|⟨c7,q6⟩
  ·refine .a 4 ?_
   cases q6
   refine .nilE ⟨rfl,rfl⟩ ?_ ?_
   ·exact⟨rfl,rfl,rfl,trivial⟩
   exact(.refl _)
  refine .a 4 ?_
  cases q6
  refine .nilE ⟨rfl,rfl⟩ ?_ ?_
  ·exact⟨rfl,rfl,rfl,trivial⟩
  exact(.refl _)
 rcases oi h with⟨c8,h⟩|⟨c8,h⟩
 ·refine .a 4 ?_
  refine .nK [4] ?_
  refine .rK [4] ?_
  have hr:=Option.some.inj h
  subst hr
  exact⟨[(eBool true)],⟨rfl,rfl,trivial⟩,rfl⟩
 refine .a 5 ?_
 obtain⟨t9,et9,h⟩:=ob h
 refine .callS [(eStr p0)] (.tup [(e55 t9.1),(eI64 t9.2)]) 22 rfl (by decide) ok32 rfl rfl rfl ⟨rfl,rfl,trivial⟩ (F32_spec et9) ?_
 refine .a 3 ?_
 refine .alloc rfl 5 rfl (by decide) rfl zr55 lay55 fun n10=>?_
 refine .store 0 rfl rfl rfl rfl rfl rfl (.cast .here rfl) rfl rfl sz55 rfl ?_
 refine .a 5 ?_
 obtain⟨t11,et11,h⟩:=ob h
 refine .callS [(eStr p0)] (.tup [(Z11 t11.1),(eI64 t11.2)]) 27 rfl (by decide) ok33 rfl rfl rfl ⟨rfl,rfl,trivial⟩ (F33_spec et11) ?_
 refine .a 8 ?_
 obtain⟨b12,q13,h⟩:=ob h
 refine .regM [(1,(eStr p1)),(5,(.ptr n10 0)),(6,(eI64 t9.2)),(7,(Z11 t11.1)),(8,(eI64 t11.2)),(35,(eBool b12))] [(n10,(.mem (e55 t9.1)))] ?_ ?_
 ·refine .a 3 ?_
  rcases oi q13 with⟨c14,q13⟩|⟨c14,q13⟩
  ·refine .a 3 ?_
   cases q13
   refine .nilE ⟨rfl,rfl⟩ ?_ ?_
   ·exact⟨rfl,rfl,rfl,rfl,rfl,rfl,trivial⟩
   exact(.refl _)
  refine .a 3 ?_
  cases q13
  refine .nilE ⟨rfl,rfl⟩ ?_ ?_
  ·exact⟨rfl,rfl,rfl,rfl,rfl,rfl,trivial⟩
  exact(.refl _)
 rcases oi h with⟨c15,h⟩|⟨c15,h⟩
 ·refine .a 2 ?_
  obtain⟨b16,q17,h⟩:=ob h
  refine .regM [(4,(eBool b16))] [] ?_ ?_
  ·refine .a 4 ?_
   rcases oi q17 with⟨c18,q17⟩|⟨c18,q17⟩
   ·refine .a 10 ?_
    cases q17
    refine .nilE ⟨rfl,rfl⟩ ?_ ?_
    ·exact⟨rfl,trivial⟩
    exact(.nil _)
   refine .a 4 ?_
   rcases oi q17 with⟨c19,q17⟩|⟨c19,q17⟩
   ·refine .a 6 ?_
    cases q17
    refine .nilE ⟨rfl,rfl⟩ ?_ ?_
    ·exact⟨rfl,trivial⟩
    exact(.nil _)
   refine .a 6 ?_
   cases q17
   refine .nilE ⟨rfl,rfl⟩ ?_ ?_
   ·exact⟨rfl,trivial⟩
   exact(.nil _)
  refine .rK [4] ?_
  have hr:=Option.some.inj h
  subst hr
  exact⟨[(eBool b16)],⟨rfl,rfl,trivial⟩,rfl⟩
 refine .a 4 ?_
 obtain⟨b20,q21,h⟩:=ob h
 refine .regM [(1,(eStr p1)),(5,(.ptr n10 0)),(7,(Z11 t11.1)),(55,(eBool b20))] [(n10,(.mem (e55 t9.1)))] ?_ ?_
 ·refine .a 3 ?_
  rcases oi q21 with⟨c22,q21⟩|⟨c22,q21⟩
  ·refine .a 4 ?_
   cases q21
   refine .nilE ⟨rfl,rfl⟩ ?_ ?_
   ·exact⟨rfl,rfl,rfl,rfl,trivial⟩
   exact(.refl _)
  refine .a 1 ?_
  obtain⟨t23,et23,q21⟩:=ob q21
  refine .callG 2 false 51 [(e55 t9.1)] (eBool t23) 53 rfl (by decide) ok28 rfl rfl (bD (decide_eq_false c22)) rfl rfl ⟨rfl,rfl,trivial⟩ (F28_spec et23) ?_
  refine .a 2 ?_
  cases q21
  refine .nilE ⟨rfl,rfl⟩ ?_ ?_
  ·exact⟨rfl,rfl,rfl,rfl,trivial⟩
  exact(.refl _)
 rcases oi h with⟨c24,h⟩|⟨c24,h⟩
 ·refine .a 4 ?_
  refine .nS [4] [] ?_
  refine .rK [4] ?_
  have hr:=Option.some.inj h
  subst hr
  exact⟨[(eBool false)],⟨rfl,rfl,trivial⟩,rfl⟩
 refine .a 3 ?_
 refine .regQ (by rfl) (by decide+kernel) ?_
 refine .a 3 ?_
 obtain⟨t25,et25,h⟩:=ob h
 refine .c (.call (args:=[(e55 t9.1),(eI64 (0:Int)),(eStr p1)]) rfl rfl ok35 ⟨rfl,rfl,rfl,rfl,rfl,rfl,trivial⟩ rfl (F35_spec et25)) ?_
 obtain⟨t26,et26,h⟩:=ob h
 refine .c (.call (args:=[(e55 t9.1),(eI64 t25)]) rfl rfl ok34 ⟨rfl,rfl,rfl,rfl,trivial⟩ rfl (F34_spec et26)) ?_
 refine .a 4 ?_
 obtain⟨b27,q28,h⟩:=ob h
 refine .regM [(5,(.ptr n10 0)),(70,(eBool b27))] [(n10,(.mem (e55 t9.1)))] ?_ ?_
 ·refine .a 4 ?_
  obtain⟨t29,et29,q28⟩:=ob q28
  refine .callS [(Z11 t11.1),(eStr p1)] (eBool t29) 65 rfl (by decide) ok36 rfl rfl rfl ⟨rfl,rfl,rfl,rfl,trivial⟩ (F36_spec et29) ?_
  refine .c (x:=eBool ((decide ((0:Int)≤t26)) != t29)) (.boolNe rfl rfl rfl Try.underlying4) ?_
  refine .a 1 ?_
  rcases oi q28 with⟨c30,q28⟩|⟨c30,q28⟩
  ·refine .a 3 ?_
   cases q28
   refine .nilE ⟨rfl,rfl⟩ ?_ ?_
   ·exact⟨rfl,rfl,trivial⟩
   exact(.refl _)
  refine .a 3 ?_
  cases q28
  refine .nilE ⟨rfl,rfl⟩ ?_ ?_
  ·exact⟨rfl,rfl,trivial⟩
  exact(.refl _)
 rcases oi h with⟨c31,h⟩|⟨c31,h⟩
 ·refine .a 4 ?_
  refine .nS [4] [] ?_
  refine .rK [4] ?_
  have hr:=Option.some.inj h
  subst hr
  exact⟨[(eBool false)],⟨rfl,rfl,trivial⟩,rfl⟩
 refine .a 3 ?_
 obtain⟨b32,q33,h⟩:=ob h
 refine .regM [(4,(eBool b32))] [] ?_ ?_
 ·refine .a 1 ?_
  obtain⟨t34,et34,q33⟩:=ob q33
  refine .callS [(e55 t9.1)] (eBool t34) 72 rfl (by decide) ok27 rfl rfl rfl ⟨rfl,rfl,trivial⟩ (F27_spec et34) ?_
  refine .a 2 ?_
  rcases oi q33 with⟨c35,q33⟩|⟨c35,q33⟩
  ·refine .a 4 ?_
   cases q33
   refine .nilE ⟨rfl,rfl⟩ ?_ ?_
   ·exact⟨rfl,trivial⟩
   exact(.nil _)
  refine .a 1 ?_
  obtain⟨t36,et36,q33⟩:=ob q33
  refine .callG 3 false 74 [(e55 t9.1)] (eBool t36) 76 rfl (by decide) ok37 rfl rfl (bD (eq_false_of_ne_true c35)) rfl rfl ⟨rfl,rfl,trivial⟩ (F37_spec et36) ?_
  refine .a 2 ?_
  cases q33
  refine .nilE ⟨rfl,rfl⟩ ?_ ?_
  ·exact⟨rfl,trivial⟩
  exact(.nil _)
 refine .rK [4] ?_
 have hr:=Option.some.inj h
 subst hr
 exact⟨[(eBool b32)],⟨rfl,rfl,trivial⟩,rfl⟩
end Go.Avl.T7
