/- Parts: T8f66, T8f68, T8f94, T8f91, T8f67, T8f70, T8f92, T8f115, T8f93, T8f69, T8f71. -/
import Derived.Test.YtpkgpmmcbpfenaaGreatAF1
namespace Go.Avl.T8
open Go Go.RowKit Go.Proofs Go.Avl
set_option linter.unusedVariables false
set_option maxRecDepth 100000
set_option maxHeartbeats 4000000
attribute [local irreducible] AW AO AQ AY Aq AH
def MX (k:Nat):Option Bool:=
 some (true)
def Fh (k:Nat) (p0:Ar):Nat→Int→Option Bool
 | 0,_=>none
 | j+1,x9=>
   if x9<(p0.f1.length:Int)then if 0≤x9∧x9<(p0.f1.length:Int)then Option.bind (α:=Bool) (if((AA p0.f1 x9).f0)<(0:Int)then some (true)
   else if p0.f0≤((AA p0.f1 x9).f0)then some (true)
   else if((AA p0.f1 x9).f1)<(0:Int)then some (true)
   else some (decide (p0.f0≤((AA p0.f1 x9).f1)))) fun b15=>
   if b15=true then some (false)
   else(Fh k p0 j) (AG (x9+(1:Int)))
   else none
   else MX k
def Yn (k:Nat) (p0:Ar):Option Bool:=
 Option.bind (α:=Bool) (if p0.f2<(0:Int)then some (true)
 else if p0.f0≤p0.f2 then some (true)
 else if p0.f3<(0:Int)then some (true)
 else some (decide (p0.f0≤p0.f3))) fun b3=>
 if b3=true then some (false)
 else Fh k p0 k (0:Int)
theorem Oh {k:Nat} {p0:Ar} {r:Bool} (h:Yn k p0=some r):AY Tryz.prog 66 [(BK p0)] (AD r):=by
 rw[Yn.eq_1]at h;refine AY.intro (res:=[.tmp 2]) Tryz.func66 rfl rfl rfl (Nat.le_of_ble_eq_true rfl) ?_;refine .sr ?_;refine .box rfl 1 rfl (by decide) rfl rfl rfl fun n2=>?_;refine .a 4 ?_;obtain⟨b3,q4,h⟩:=ob h;refine .regM [(1,(.ptr n2 0)),(26,(AD b3))] [(n2,(.mem (BK p0)))] ?_ ?_
 ·refine .a 4 ?_;rcases oi q4 with⟨c5,q4⟩|⟨c5,q4⟩
  ·refine .a 18 ?_;cases q4;refine .nilE ⟨rfl,rfl⟩ ?_ ?_
   ·exact⟨rfl,rfl,trivial⟩
   exact(.refl _)
  refine .a 7 ?_;rcases oi q4 with⟨c6,q4⟩|⟨c6,q4⟩
  ·refine .a 11 ?_;cases q4;refine .nilE ⟨rfl,rfl⟩ ?_ ?_
   ·exact⟨rfl,rfl,trivial⟩
   exact(.refl _)
  refine .a 5 ?_;rcases oi q4 with⟨c7,q4⟩|⟨c7,q4⟩
  ·refine .a 6 ?_;cases q4;refine .nilE ⟨rfl,rfl⟩ ?_ ?_
   ·exact⟨rfl,rfl,trivial⟩
   exact(.refl _)
  refine .a 6 ?_;cases q4;refine .nilE ⟨rfl,rfl⟩ ?_ ?_
  ·exact⟨rfl,rfl,trivial⟩
  exact(.refl _)
 rcases oi h with⟨c8,h⟩|⟨c8,h⟩
 ·refine .a 4 ?_;refine .nS [2] [] ?_;refine .rK [2] ?_;have hr:=Option.some.inj h;subst hr;exact⟨[(AD false)],⟨rfl,rfl,trivial⟩,rfl⟩
 refine .a 1 ?_;refine .sK [1] ?_;refine .seq_mid (fun ρ H=>ρ=[]∧H=[]∧MX k=some r) ?_ ?_
 ·refine .a 8 ?_;refine .wK [1,28,29,30] ?_;refine .loop (fun kq ρ H=>∃ (x9:Int),ρ=[(1,(.ptr n2 0)),(28,(.fz 7 (p0.f1.map BD))),(29,(AB (p0.f1.length:Int))),(30,(AB x9))]∧H=[(n2,(.mem (BK p0)))]∧Fh k p0 kq x9=some r) k ⟨(0:Int),rfl,rfl,h⟩ ?_;rintro kq11 _ _ ⟨x9,rfl,rfl,h⟩
  cases kq11 with
  | zero=>rw[Fh.eq_1]at h;cases h
  | succ kq11=>
  rw[Fh.eq_2]at h;generalize hrec10:Fh k p0 kq11=rec10 at h;refine .a 5 ?_;rcases oi h with⟨c12,h⟩|⟨c12,h⟩
  ·refine .a 6 ?_;obtain⟨g13,h⟩:=AC h;refine .a 2 ?_;refine .alloc rfl 4 rfl (by decide) rfl DP DH fun n14=>?_;refine .store 0 rfl rfl rfl rfl rfl rfl (.cast .here rfl) rfl rfl EG rfl ?_;refine .nS [1,4,28,29,30] [1,0] ?_;refine .seq ?_;obtain⟨b15,q16,h⟩:=ob h;refine .regM [(1,(.ptr n2 0)),(28,(.fz 7 (p0.f1.map BD))),(29,(AB (p0.f1.length:Int))),(30,(AB x9)),(55,(AD b15))] [(n2,(.mem (BK p0)))] ?_ ?_
   ·refine .a 4 ?_;rcases oi q16 with⟨c17,q16⟩|⟨c17,q16⟩
    ·refine .a 18 ?_;cases q16;refine .nilE ⟨rfl,rfl⟩ ?_ ?_
     ·exact⟨rfl,rfl,rfl,rfl,rfl,trivial⟩
     exact(.cons 0 rfl (.nil _))
    refine .a 7 ?_;rcases oi q16 with⟨c18,q16⟩|⟨c18,q16⟩
    ·refine .a 11 ?_;cases q16;refine .nilE ⟨rfl,rfl⟩ ?_ ?_
     ·exact⟨rfl,rfl,rfl,rfl,rfl,trivial⟩
     exact(.cons 0 rfl (.nil _))
    refine .a 5 ?_;rcases oi q16 with⟨c19,q16⟩|⟨c19,q16⟩
    ·refine .a 6 ?_;cases q16;refine .nilE ⟨rfl,rfl⟩ ?_ ?_
     ·exact⟨rfl,rfl,rfl,rfl,rfl,trivial⟩
     exact(.cons 0 rfl (.nil _))
    refine .a 6 ?_;cases q16;refine .nilE ⟨rfl,rfl⟩ ?_ ?_
    ·exact⟨rfl,rfl,rfl,rfl,rfl,trivial⟩
    exact(.cons 0 rfl (.nil _))
   rcases oi h with⟨c20,h⟩|⟨c20,h⟩
   ·refine .a 4 ?_;refine .nS [2] [] ?_;refine .rK [2] ?_;have hr:=Option.some.inj h;subst hr;exact⟨[(AD false)],⟨rfl,rfl,trivial⟩,rfl⟩
   refine .a 5 ?_;refine .nK [1,28,29,30] ?_;exact⟨kq11,Nat.lt_succ_self _,(AG (x9+(1:Int))),rfl,rfl,by rw[hrec10];exact h⟩
  refine .a 1 ?_;refine .eH [] (H':=[]) (.nil _) ?_;exact⟨rfl,rfl,h⟩
 rintro _ _ ⟨rfl,rfl,h⟩;rw[MX.eq_1]at h;refine .a 3 ?_;refine .nK [2] ?_;refine .rK [2] ?_;have hr:=Option.some.inj h;subst hr;exact⟨[(AD true)],⟨rfl,rfl,trivial⟩,rfl⟩
def Pe (k:Nat) (x4:(List (Vector Int 4))):Option (List (Vector Int 4)):=
 some (x4)
def Jo (k:Nat) (rec8:((List (Vector Int 4))→Int→Option (List (Vector Int 4)))) (x7:Int) (x12:(List (Vector Int 4))):Option (List (Vector Int 4)):=
 rec8 x12 (AG (x7+(1:Int)))
def Ej (k:Nat) (p0:Ar):Nat→(List (Vector Int 4))→Int→Option (List (Vector Int 4))
 | 0,_,_=>none
 | j+1,x6,x7=>
   if x7<(p0.f1.length:Int)then if 0≤x7∧x7<(p0.f1.length:Int)then if(!((AA p0.f1 x7).f3))=true then if(x6++([(AA p0.f1 x7).f2]:List (Vector Int 4))).length*32≤140737488355328 then Jo k (Ej k p0 j) x7 (x6++([(AA p0.f1 x7).f2]:List (Vector Int 4)))
   else none
   else Jo k (Ej k p0 j) x7 x6
   else none
   else Pe k x6
def au (k:Nat) (p0:Ar):Option (List (Vector Int 4)):=
 Ej k p0 k ([]:List (Vector Int 4)) (0:Int)
theorem Uu {k:Nat} {p0:Ar} {r:(List (Vector Int 4))} (h:au k p0=some r):AY Tryz.prog 68 [(BK p0)] (bk r):=by
 rw[au.eq_1]at h;refine AY.intro (res:=[.tmp 2]) Tryz.func68 rfl rfl rfl (Nat.le_of_ble_eq_true rfl) ?_;refine .sr ?_;refine .box rfl 1 rfl (by decide) rfl rfl rfl fun n2=>?_;refine .a 5 ?_;refine .nK [1,3] ?_;refine .seq_mid (fun ρ H=>∃ (n3:Nat) (x4:(List (Vector Int 4))),ρ=[(3,(.own n3 0 x4.length))]∧H=[(n3,(.mem (.ar 4 (x4.map C7))))]∧Pe k x4=some r) ?_ ?_
 ·refine .a 6 ?_;refine .nS [3,7,8,9] [] ?_;refine .a 1 ?_;refine .nilOwn 3 4 rfl fun n19=>?_;refine .wK [3,7,8,9] ?_;refine .loop (fun kq ρ H=>∃ (n5:Nat) (x6:(List (Vector Int 4))) (x7:Int),ρ=[(3,(.own n5 0 x6.length)),(7,(.fz 7 (p0.f1.map BD))),(8,(AB (p0.f1.length:Int))),(9,(AB x7))]∧H=[(n5,(.mem (.ar 4 (x6.map C7))))]∧Ej k p0 kq x6 x7=some r) k ⟨n19,([]:List (Vector Int 4)),(0:Int),rfl,rfl,h⟩ ?_;rintro kq9 _ _ ⟨n5,x6,x7,rfl,rfl,h⟩
  cases kq9 with
  | zero=>rw[Ej.eq_1]at h;cases h
  | succ kq9=>
  rw[Ej.eq_2]at h;generalize hrec8:Ej k p0 kq9=rec8 at h;refine .a 5 ?_;rcases oi h with⟨c10,h⟩|⟨c10,h⟩
  ·refine .a 1 ?_;refine .sK [3,7,8,9] ?_;refine .seq_mid (fun ρ H=>∃ (n11:Nat) (x12:(List (Vector Int 4))),ρ=[(3,(.own n11 0 x12.length)),(7,(.fz 7 (p0.f1.map BD))),(8,(AB (p0.f1.length:Int))),(9,(AB x7))]∧H=[(n11,(.mem (.ar 4 (x12.map C7))))]∧Jo k rec8 x7 x12=some r) ?_ ?_
   ·refine .a 3 ?_;obtain⟨g13,h⟩:=AC h;refine .a 2 ?_;refine .alloc rfl 5 rfl (by decide) rfl DP DH fun n14=>?_;refine .store 0 rfl rfl rfl rfl rfl rfl (.cast .here rfl) rfl rfl EG rfl ?_;refine .nS [3,5,7,8,9] [1,0] ?_;refine .a 6 ?_;rcases oi h with⟨c15,h⟩|⟨c15,h⟩
    ·refine .a 5 ?_;refine .lit (Z:=(.ar 1 ((Vector.replicate 4 (0:Int)).toList.map Ab))) (xs:=(([(AA p0.f1 x7).f2]:List (Vector Int 4)).map C7)) (qs:=[(0,(.ar 1 (((AA p0.f1 x7).f2).toList.map Ab)))]) rfl 19 rfl (by decide) rfl ⟨rfl,rfl,rfl,trivial⟩ Tryz.underlying134 Br B8 Bj rfl (by decide) (An (z:=4) [(.ar 1 (((AA p0.f1 x7).f2).toList.map Ab))] (Ax _ _) ⟨⟨rfl,(Ax _ _)⟩,trivial⟩) rfl fun n16=>?_;obtain⟨g18,h⟩:=AC h;refine .appendL (l:=x6) (m:=([(AA p0.f1 x7).f2]:List (Vector Int 4))) 1 20 rfl (by decide) rfl rfl rfl rfl rfl (CS.ownL (f:=C7) (l:=([(AA p0.f1 x7).f2]:List (Vector Int 4))) 0 rfl) Tryz.underlying134 Tryz.underlying134 Br aL B8 rfl g18 (by decide) fun n17=>?_;refine .a 1 ?_;refine .nS [3,7,8,9] [1] ?_;exact⟨n17,(x6++([(AA p0.f1 x7).f2]:List (Vector Int 4))),rfl,rfl,h⟩
    refine .a 1 ?_;refine .sH [3,7,8,9] (H':=[(n5,(.mem (.ar 4 (x6.map C7))))]) (.cons 0 rfl (.nil _)) ?_;exact⟨n5,x6,rfl,rfl,h⟩
   rintro _ _ ⟨n11,x12,rfl,rfl,h⟩;rw[Jo.eq_1]at h;refine .a 3 ?_;refine .nK [3,7,8,9] ?_;exact⟨kq9,Nat.lt_succ_self _,n11,x12,(AG (x7+(1:Int))),rfl,rfl,by rw[hrec8];exact h⟩
  refine .a 1 ?_;refine .eK [3] ?_;exact⟨n5,x6,rfl,rfl,h⟩
 rintro _ _ ⟨n3,x4,rfl,rfl,h⟩;rw[Pe.eq_1]at h;refine .a 4 ?_;refine .nK [2] ?_;refine .freezeS 0 [(2,(.fz 4 (x4.map C7)))] rfl ⟨Aj rfl,trivial⟩ ?_;refine .rK [2] ?_;have hr:=Option.some.inj h;subst hr;exact⟨[(.fz 4 (x4.map C7))],⟨rfl,rfl,trivial⟩,rfl⟩
def YE (k:Nat) (p0:(Vector Int 4)) (p1:Int):Option Bool:=
 if 0≤(IntKind.u8.wrap (p1.tdiv (64:Int)))∧(IntKind.u8.wrap (p1.tdiv (64:Int)))<(4:Int)then if 0≤(p1.tmod (64:Int))then some (decide ((bits .and .u64 (Int.fdiv (AZ p0 (IntKind.u8.wrap (p1.tdiv (64:Int)))) (2 ^ (min (p1.tmod (64:Int)).toNat IntKind.u64.bits))) (1:Int))=(1:Int)))
 else none
 else none
theorem N3 {k:Nat} {p0:(Vector Int 4)} {p1:Int} {r:Bool} (h:YE k p0 p1=some r):AY Tryz.prog 94 [(.ar 1 (p0.toList.map Ab)),(AK p1)] (AD r):=by
 rw[YE.eq_1]at h;refine AY.intro (res:=[.tmp 4]) Tryz.func94 rfl rfl rfl (Nat.le_of_ble_eq_true rfl) ?_;refine .sr ?_;refine .box rfl 2 rfl (by decide) rfl rfl rfl fun n3=>?_;refine .a 5 ?_;refine .c (x:=AK (IntKind.u8.wrap (p1.tdiv (64:Int)))) (.quo rfl rfl rfl (by decide)) ?_;obtain⟨g4,h⟩:=AC h;refine .c (.idxP rfl rfl rfl g4 Tryz.underlying120 BX) ?_;refine .c (.load 0 rfl rfl rfl (.cast (.vidx (IntKind.u8.wrap (p1.tdiv (64:Int))) g4.1 g4.2 .here) (by omega)) GC BX) ?_;refine .mv rfl rfl ?_;refine .c (x:=AK (p1.tmod (64:Int))) (.rem rfl rfl rfl (by decide)) ?_;obtain⟨g5,h⟩:=AC h;refine .c (x:=Ab (Int.fdiv (AZ p0 (IntKind.u8.wrap (p1.tdiv (64:Int)))) (2 ^ (min (p1.tmod (64:Int)).toNat IntKind.u64.bits)))) (.shr rfl rfl rfl g5) ?_;refine .a 3 ?_;refine .nS [4] [] ?_;refine .rK [4] ?_;cases h;exact⟨[(AD (decide ((bits .and .u64 (Int.fdiv (AZ p0 (IntKind.u8.wrap (p1.tdiv (64:Int)))) (2 ^ (min (p1.tmod (64:Int)).toNat IntKind.u64.bits))) (1:Int))=(1:Int))))],⟨rfl,rfl,trivial⟩,rfl⟩
def Mi (k:Nat) (x5:(List Int)):Option ByteArray:=
 some ((strOfNums x5))
def G0 (k:Nat) (rec8:((List Int)→Int→Option ByteArray)) (x7:Int) (x11:(List Int)):Option ByteArray:=
 rec8 x11 (AG (x7+(1:Int)))
def Ci (k:Nat) (p0:(List (Vector Int 4))) (p1:Int):Nat→(List Int)→Int→Option ByteArray
 | 0,_,_=>none
 | j+1,x6,x7=>
   if x7<(p0.length:Int)then if 0≤x7∧x7<(p0.length:Int)then(YE k (AA p0 x7) p1).bind fun t14=>
   if t14=true then if 0≤(IntKind.i64.wrap (x7.tdiv (8:Int)))∧(IntKind.i64.wrap (x7.tdiv (8:Int)))<(x6.length:Int)then if 0≤(u64 (x7.tmod (8:Int)))then if 0≤(IntKind.i64.wrap (x7.tdiv (8:Int)))∧(IntKind.i64.wrap (x7.tdiv (8:Int)))<(x6.length:Int)then G0 k (Ci k p0 p1 j) x7 (AU x6 (IntKind.i64.wrap (x7.tdiv (8:Int))) (bits .or .u8 (AA x6 (IntKind.i64.wrap (x7.tdiv (8:Int)))) (IntKind.u8.wrap ((1:Int)*2 ^ (min (u64 (x7.tmod (8:Int))).toNat IntKind.u8.bits)))))
   else none
   else none
   else none
   else G0 k (Ci k p0 p1 j) x7 x6
   else none
   else Mi k x6
def Ti (k:Nat) (p0:(List (Vector Int 4))) (p1:Int):Option ByteArray:=
 if 0≤(IntKind.i64.wrap ((AG ((p0.length:Int)+(7:Int))).tdiv (8:Int)))∧(IntKind.i64.wrap ((AG ((p0.length:Int)+(7:Int))).tdiv (8:Int)))*(1:Int)≤140737488355328∧(IntKind.i64.wrap ((AG ((p0.length:Int)+(7:Int))).tdiv (8:Int)))≤9223372036854775807 then Ci k p0 p1 k (List.replicate (IntKind.i64.wrap ((AG ((p0.length:Int)+(7:Int))).tdiv (8:Int))).toNat (0:Int)) (0:Int)
 else none
theorem SX {k:Nat} {p0:(List (Vector Int 4))} {p1:Int} {r:ByteArray} (h:Ti k p0 p1=some r):AY Tryz.prog 91 [(.fz 4 (p0.map C7)),(AK p1)] (AN r):=by
 rw[Ti.eq_1]at h;refine AY.intro (res:=[.tmp 4]) Tryz.func91 rfl rfl rfl (Nat.le_of_ble_eq_true rfl) ?_;refine .a 9 ?_;refine .c (x:=AB (IntKind.i64.wrap ((AG ((p0.length:Int)+(7:Int))).tdiv (8:Int)))) (.quo rfl rfl rfl (by decide)) ?_;obtain⟨g4,h⟩:=AC h;refine .makeL (f:=AK) (0:Int) rfl 12 rfl (by decide) rfl rfl rfl Tryz.underlying130 Ew bm Wv PL rfl g4 fun n3=>?_;refine .a 1 ?_;refine .nK [0,1,5] ?_;refine .seq_mid (fun ρ H=>∃ (x5:(List Int)),ρ=[(5,(.own n3 0 x5.length))]∧H=[(Uy n3 x5)]∧Mi k x5=some r) ?_ ?_
 ·refine .a 7 ?_;refine .wK [1,5,13,14,15] ?_;refine .loop (fun kq ρ H=>∃ (x6:(List Int)) (x7:Int),ρ=[(1,(AK p1)),(5,(.own n3 0 x6.length)),(13,(.fz 4 (p0.map C7))),(14,(AB (p0.length:Int))),(15,(AB x7))]∧H=[(Uy n3 x6)]∧Ci k p0 p1 kq x6 x7=some r) k ⟨(List.replicate (IntKind.i64.wrap ((AG ((p0.length:Int)+(7:Int))).tdiv (8:Int))).toNat (0:Int)),(0:Int),rfl,rfl,h⟩ ?_;rintro kq9 _ _ ⟨x6,x7,rfl,rfl,h⟩
  cases kq9 with
  | zero=>rw[Ci.eq_1]at h;cases h
  | succ kq9=>
  rw[Ci.eq_2]at h;generalize hrec8:Ci k p0 p1 kq9=rec8 at h;refine .a 5 ?_;rcases oi h with⟨c10,h⟩|⟨c10,h⟩
  ·refine .a 1 ?_;refine .sK [1,5,13,14,15] ?_;refine .seq_mid (fun ρ H=>∃ (x11:(List Int)),ρ=[(1,(AK p1)),(5,(.own n3 0 x11.length)),(13,(.fz 4 (p0.map C7))),(14,(AB (p0.length:Int))),(15,(AB x7))]∧H=[(Uy n3 x11)]∧G0 k rec8 x7 x11=some r) ?_ ?_
   ·refine .a 4 ?_;obtain⟨g12,h⟩:=AC h;refine .a 2 ?_;refine .alloc rfl 7 rfl (by decide) rfl B8 Bj fun n13=>?_;refine .a 1 ?_;refine .store 0 rfl rfl rfl rfl rfl rfl (.cast .here rfl) rfl (by simp[AV.size]) (by rw[Br];simp[AV.size]) rfl ?_;refine .nS [1,5,6,7,13,14,15] [1,0] ?_;refine .a 4 ?_;obtain⟨t14,et14,h⟩:=ob h;refine .callS [(.ar 1 ((AA p0 x7).toList.map Ab)),(AK p1)] (AD t14) 22 rfl (by decide) aR rfl rfl rfl ⟨rfl,rfl,rfl,rfl,trivial⟩ (N3 et14) ?_;refine .nS [1,5,6,13,14,15,22] [0] ?_;rcases oi h with⟨c15,h⟩|⟨c15,h⟩
    ·refine .a 4 ?_;refine .c (x:=AB (IntKind.i64.wrap (x7.tdiv (8:Int)))) (.quo rfl rfl rfl (by decide)) ?_;obtain⟨g16,h⟩:=AC h;refine .c (.idxO 0 rfl rfl rfl rfl g16 Tryz.underlying130 Ew) ?_;refine .c (.load 0 rfl rfl rfl (.cast (.lidx (IntKind.i64.wrap (x7.tdiv (8:Int))) g16.1 g16.2 .here) (by omega)) Ol Ew) ?_;refine .mv rfl rfl ?_;refine .c (x:=AB (x7.tmod (8:Int))) (.rem rfl rfl rfl (by decide)) ?_;refine .a 1 ?_;obtain⟨g17,h⟩:=AC h;refine .c (x:=AK (IntKind.u8.wrap ((1:Int)*2 ^ (min (u64 (x7.tmod (8:Int))).toNat IntKind.u8.bits)))) (.shl rfl rfl rfl g17) ?_;refine .a 1 ?_;obtain⟨g18,h⟩:=AC h;refine .a 1 ?_;refine .store 0 rfl rfl rfl rfl rfl rfl (.cast (.lidx (IntKind.i64.wrap (x7.tdiv (8:Int))) (bits .or .u8 (AA x6 (IntKind.i64.wrap (x7.tdiv (8:Int)))) (IntKind.u8.wrap ((1:Int)*2 ^ (min (u64 (x7.tmod (8:Int))).toNat IntKind.u8.bits)))) g18.1 g18.2 .here) (by omega)) rfl rfl Ew rfl ?_;refine .coe 5 (y':=(BL n3 (AU x6 (IntKind.i64.wrap (x7.tdiv (8:Int))) (bits .or .u8 (AA x6 (IntKind.i64.wrap (x7.tdiv (8:Int)))) (IntKind.u8.wrap ((1:Int)*2 ^ (min (u64 (x7.tmod (8:Int))).toNat IntKind.u8.bits))))).length)) rfl (fun _ _ h=>Ad h) ?_;refine .coe 23 (y':=(BL n3 (AU x6 (IntKind.i64.wrap (x7.tdiv (8:Int))) (bits .or .u8 (AA x6 (IntKind.i64.wrap (x7.tdiv (8:Int)))) (IntKind.u8.wrap ((1:Int)*2 ^ (min (u64 (x7.tmod (8:Int))).toNat IntKind.u8.bits))))).length)) rfl (fun _ _ h=>Ad h) ?_;refine .nK [1,5,13,14,15] ?_
     exact⟨(AU x6 (IntKind.i64.wrap (x7.tdiv (8:Int))) (bits .or .u8 (AA x6 (IntKind.i64.wrap (x7.tdiv (8:Int)))) (IntKind.u8.wrap ((1:Int)*2 ^ (min (u64 (x7.tmod (8:Int))).toNat IntKind.u8.bits))))),rfl,rfl,h⟩
    refine .a 1 ?_;refine .sK [1,5,13,14,15] ?_;exact⟨x6,rfl,rfl,h⟩
   rintro _ _ ⟨x11,rfl,rfl,h⟩;rw[G0.eq_1]at h;refine .a 3 ?_;refine .nK [1,5,13,14,15] ?_;exact⟨kq9,Nat.lt_succ_self _,x11,(AG (x7+(1:Int))),rfl,rfl,by rw[hrec8];exact h⟩
  refine .a 1 ?_;refine .eK [5] ?_;exact⟨x6,rfl,rfl,h⟩
 rintro _ _ ⟨x5,rfl,rfl,h⟩;rw[Mi.eq_1]at h;refine .a 3 ?_;refine .c (x:=AN (strOfNums x5)) (.strO 0 rfl rfl rfl Tryz.underlying130 Tryz.underlying9 Tryz.underlying5) ?_;refine .a 1 ?_;refine .nS [4] [] ?_;refine .rK [4] ?_;cases h;exact⟨[(AN (strOfNums x5))],⟨rfl,rfl,trivial⟩,rfl⟩
def L9 (k:Nat) (x5:(Vector Int 256)):Option (Vector Int 256):=
 some (x5)
def H6 (k:Nat) (rec9:((Vector Int 256)→(List (ByteArray×Int))→Int→Option (Vector Int 256))) (x6:(Vector Int 256)) (x8:Int) (x13:(List (ByteArray×Int))) (x14:Int):Option (Vector Int 256):=
 if 0≤x8∧x8<(256:Int)then rec9 (BP x6 x8 (w8 x14)) x13 (AG (x8+(1:Int)))
 else none
def D2 (k:Nat) (p0:(List (Vector Int 4))):Nat→(Vector Int 256)→(List (ByteArray×Int))→Int→Option (Vector Int 256)
 | 0,_,_,_=>none
 | j+1,x6,x7,x8=>
   if x8<(256:Int)then(Ti k p0 (w8 x8)).bind fun t12=>
   if(!((Ay x7 t12).isSome))=true then H6 k (D2 k p0 j) x6 x8 (BE x7 t12 (x7.length:Int)) (x7.length:Int)
   else H6 k (D2 k p0 j) x6 x8 x7 ((Ay x7 t12).getD (0:Int))
   else L9 k x6
def ak (k:Nat) (p0:(List (Vector Int 4))):Option (Vector Int 256):=
 D2 k p0 k (Vector.replicate 256 (0:Int)) ([]:List (ByteArray×Int)) (0:Int)
theorem TZ {k:Nat} {p0:(List (Vector Int 4))} {r:(Vector Int 256)} (h:ak k p0=some r):AY Tryz.prog 67 [(.fz 4 (p0.map C7))] (cz r):=by
 rw[ak.eq_1]at h;refine AY.intro (res:=[.cell 2 38]) Tryz.func67 rfl rfl rfl (Nat.le_of_ble_eq_true rfl) ?_;refine .sr ?_;refine .alloc rfl 2 rfl (by decide) rfl ZS Wj fun n2=>?_;refine .a 3 ?_;refine .alloc rfl 3 rfl (by decide) rfl ZS Wj fun n3=>?_;refine .nS [0,2,3] [1,0] ?_;refine .sr ?_;refine .makeMap rfl 9 rfl (by decide) rfl fun n4=>?_;refine .a 1 ?_;refine .nS [0,2,3,4] [1,2,0] ?_;refine .seq_mid (fun ρ H=>∃ (x5:(Vector Int 256)),ρ=[(2,(.ptr n2 0)),(3,(.ptr n3 0))]∧H=[(BM n2 ((Vector.replicate 256 (0:Int)).toList.map AK)),(BM n3 (x5.toList.map AK))]∧L9 k x5=some r) ?_ ?_
 ·refine .a 5 ?_;refine .wK [0,2,3,4,10] ?_;refine .loop (fun kq ρ H=>∃ (x6:(Vector Int 256)) (x7:(List (ByteArray×Int))) (x8:Int),ρ=[(0,(.fz 4 (p0.map C7))),(2,(.ptr n2 0)),(3,(.ptr n3 0)),(4,(.mp n4)),(10,(AB x8))]∧H=[(BM n2 ((Vector.replicate 256 (0:Int)).toList.map AK)),(BM n3 (x6.toList.map AK)),(n4,(.map (Am Value.string AB x7)))]∧D2 k p0 kq x6 x7 x8=some r) k ⟨(Vector.replicate 256 (0:Int)),([]:List (ByteArray×Int)),(0:Int),rfl,rfl,h⟩ ?_;rintro kq10 _ _ ⟨x6,x7,x8,rfl,rfl,h⟩
  cases kq10 with
  | zero=>rw[D2.eq_1]at h;cases h
  | succ kq10=>
  rw[D2.eq_2]at h;generalize hrec9:D2 k p0 kq10=rec9 at h;refine .a 5 ?_;rcases oi h with⟨c11,h⟩|⟨c11,h⟩
  ·refine .a 14 ?_;obtain⟨t12,et12,h⟩:=ob h;refine .callS [(.fz 4 (p0.map C7)),(AK (w8 x8))] (AN t12) 16 rfl (by decide) bl rfl rfl rfl ⟨rfl,rfl,rfl,rfl,trivial⟩ (SX et12) ?_;refine .a 6 ?_;refine .c (x:=.tup [(AB ((Ay x7 t12).getD (0:Int))),(AD ((Ay x7 t12).isSome))]) (.look2 (f:=AB) BO BN (0:Int) 2 rfl rfl rfl rfl Tryz.underlying97 Tryz.underlying9 Ym) ?_;refine .a 5 ?_;refine .nK [0,2,3,4,5,6,7,8,10] ?_;refine .seq_mid (fun ρ H=>∃ (x13:(List (ByteArray×Int))) (x14:Int),ρ=[(0,(.fz 4 (p0.map C7))),(2,(.ptr n2 0)),(3,(.ptr n3 0)),(4,(.mp n4)),(5,(AB x8)),(7,(AB x14)),(10,(AB x8))]∧H=[(BM n2 ((Vector.replicate 256 (0:Int)).toList.map AK)),(BM n3 (x6.toList.map AK)),(n4,(.map (Am Value.string AB x13)))]∧H6 k rec9 x6 x8 x13 x14=some r) ?_ ?_
   ·refine .a 5 ?_;rcases oi h with⟨c16,h⟩|⟨c16,h⟩
    ·refine .a 4 ?_;refine .c (x:=AB (x7.length:Int)) (.lenMap 2 rfl rfl rfl Tryz.underlying97) ?_;refine .a 6 ?_;refine .mapPut (f:=AB) BO BN 2 rfl rfl rfl rfl rfl rfl rfl rfl Tryz.underlying97 Tryz.underlying9 ?_;refine .nK [0,2,3,4,5,7,10] ?_;exact⟨(BE x7 t12 (x7.length:Int)),(x7.length:Int),rfl,rfl,h⟩
    refine .a 1 ?_;refine .sK [0,2,3,4,5,7,10] ?_;exact⟨x7,((Ay x7 t12).getD (0:Int)),rfl,rfl,h⟩
   rintro _ _ ⟨x13,x14,rfl,rfl,h⟩;rw[H6.eq_1]at h;refine .a 4 ?_;obtain⟨g15,h⟩:=AC h;refine .c (.idxP rfl rfl rfl g15 Tryz.underlying38 Ew) ?_;refine .store 1 rfl rfl rfl rfl rfl rfl (.cast (.vidx x8 (w8 x14) g15.1 g15.2 .here) (by omega)) rfl rfl Ew rfl ?_;refine .a 4 ?_;refine .nK [0,2,3,4,10] ?_;exact⟨kq10,Nat.lt_succ_self _,(BP x6 x8 (w8 x14)),x13,(AG (x8+(1:Int))),rfl,rfl,by rw[hrec9];exact h⟩
  refine .a 1 ?_;refine .eH [2,3] (H':=[(BM n2 ((Vector.replicate 256 (0:Int)).toList.map AK)),(BM n3 (x6.toList.map AK))]) (.cons 0 rfl (.cons 0 rfl (.nil _))) ?_;exact⟨x6,rfl,rfl,h⟩
 rintro _ _ ⟨x5,rfl,rfl,h⟩;rw[L9.eq_1]at h;refine .a 3 ?_;refine .store 0 rfl rfl rfl rfl rfl rfl (.cast .here rfl) rfl (by simp[AV.size]) (by rw[UP];simp[AV.size]) rfl ?_;refine .nS [2] [0] ?_;refine .rK [2] ?_;have hr:=Option.some.inj h;subst hr;exact⟨[(.ar 1 (x5.toList.map AK))],⟨⟨_,0,rfl,rfl,ZK,(by rw[UP];simp[AV.size])⟩,trivial⟩,rfl⟩
def LU (k:Nat) (x6:(List Bool)):Option (List Bool):=
 some (x6)
def H0 (k:Nat) (rec15:((List Bool)→Bool→Int→Option (List Bool))) (x14:Int) (x18:(List Bool)) (b19:Bool):Option (List Bool):=
 rec15 x18 b19 (AG (x14+(1:Int)))
def EI (k:Nat) (rec9:((List Bool)→Bool→Option (List Bool))) (p0:Ar):Nat→(List Bool)→Bool→Int→Option (List Bool)
 | 0,_,_,_=>none
 | j+1,x12,b13,x14=>
   if x14<(p0.f1.length:Int)then if 0≤x14∧x14<(p0.f1.length:Int)then Option.bind (α:=Bool) (if((AA p0.f1 x14).f3)=true then if 0≤((AA p0.f1 x14).f0)∧((AA p0.f1 x14).f0)<(x12.length:Int)then if(AA x12 ((AA p0.f1 x14).f0))=true then if 0≤((AA p0.f1 x14).f1)∧((AA p0.f1 x14).f1)<(x12.length:Int)then some (!(AA x12 ((AA p0.f1 x14).f1)))
   else none
   else some (false)
   else none
   else some (false)) fun b22=>
   if b22=true then if 0≤((AA p0.f1 x14).f1)∧((AA p0.f1 x14).f1)<(x12.length:Int)then H0 k (EI k rec9 p0 j) x14 (AU x12 ((AA p0.f1 x14).f1) true) true
   else none
   else H0 k (EI k rec9 p0 j) x14 x12 b13
   else none
   else rec9 x12 b13
def D3 (k:Nat) (p0:Ar):Nat→(List Bool)→Bool→Option (List Bool)
 | 0,_,_=>none
 | j+1,x7,b8=>
   if b8=true then EI k (D3 k p0 j) p0 k x7 false (0:Int)
   else LU k x7
def Ys (k:Nat) (p0:Ar) (p1:(List Bool)):Option (List Bool):=
 if 0≤p0.f0∧p0.f0*(1:Int)≤140737488355328∧p0.f0≤9223372036854775807 then D3 k p0 k (DQ (List.replicate p0.f0.toNat false) p1) true
 else none
theorem OV {k:Nat} {p0:Ar} {p1:(List Bool)} {r:(List Bool)} (h:Ys k p0 p1=some r):AY Tryz.prog 70 [(BK p0),(.fz 1 (p1.map AD))] (G7 r):=by
 rw[Ys.eq_1]at h;refine AY.intro (res:=[.tmp 4]) Tryz.func70 rfl rfl rfl (Nat.le_of_ble_eq_true rfl) ?_;refine .sr ?_;refine .box rfl 2 rfl (by decide) rfl rfl rfl fun n3=>?_;refine .a 6 ?_;obtain⟨g5,h⟩:=AC h;refine .makeL (f:=AD) false rfl 11 rfl (by decide) rfl rfl rfl Tryz.underlying95 Bw KI G3 D9 rfl g5 fun n4=>?_;refine .a 1 ?_;refine .nS [1,2,5] [1,0] ?_;refine .a 4 ?_;refine .copyL (l:=(List.replicate p0.f0.toNat false)) (m:=p1) (f:=AD) 1 14 rfl (by decide) rfl rfl rfl rfl rfl Tryz.underlying95 Bw ?_;refine .coe 5 (y':=(BL n4 (DQ (List.replicate p0.f0.toNat false) p1).length)) rfl (fun _ _ h=>K2 h) ?_;refine .coe 12 (y':=(BL n4 (DQ (List.replicate p0.f0.toNat false) p1).length)) rfl (fun _ _ h=>K2 h) ?_;refine .nK [2,5] ?_;refine .seq_mid (fun ρ H=>∃ (x6:(List Bool)),ρ=[(5,(.own n4 0 x6.length))]∧H=[(Z9 n4 x6)]∧LU k x6=some r) ?_ ?_
 ·refine .a 5 ?_;refine .wK [2,5,6] ?_;refine .loop (fun kq ρ H=>∃ (x7:(List Bool)) (b8:Bool),ρ=[(2,(.ptr n3 0)),(5,(.own n4 0 x7.length)),(6,(AD b8))]∧H=[(n3,(.mem (BK p0))),(Z9 n4 x7)]∧D3 k p0 kq x7 b8=some r) k ⟨(DQ (List.replicate p0.f0.toNat false) p1),true,rfl,rfl,h⟩ ?_;rintro kq10 _ _ ⟨x7,b8,rfl,rfl,h⟩
  cases kq10 with
  | zero=>rw[D3.eq_1]at h;cases h
  | succ kq10=>
  rw[D3.eq_2]at h;generalize hrec9:D3 k p0 kq10=rec9 at h;refine .a 5 ?_;rcases oi h with⟨c11,h⟩|⟨c11,h⟩
  ·refine .a 15 ?_;refine .wK [2,5,6,17,18,19] ?_;refine .loop (fun kq ρ H=>∃ (x12:(List Bool)) (b13:Bool) (x14:Int),ρ=[(2,(.ptr n3 0)),(5,(.own n4 0 x12.length)),(6,(AD b13)),(17,(.fz 7 (p0.f1.map BD))),(18,(AB (p0.f1.length:Int))),(19,(AB x14))]∧H=[(n3,(.mem (BK p0))),(Z9 n4 x12)]∧EI k rec9 p0 kq x12 b13 x14=some r) k ⟨x7,false,(0:Int),rfl,rfl,h⟩ ?_;rintro kq16 _ _ ⟨x12,b13,x14,rfl,rfl,h⟩
   cases kq16 with
   | zero=>rw[EI.eq_1]at h;cases h
   | succ kq16=>
   rw[EI.eq_2]at h;generalize hrec15:EI k rec9 p0 kq16=rec15 at h;refine .a 5 ?_;rcases oi h with⟨c17,h⟩|⟨c17,h⟩
   ·refine .a 1 ?_;refine .sK [2,5,6,17,18,19] ?_;refine .seq_mid (fun ρ H=>∃ (x18:(List Bool)) (b19:Bool),ρ=[(2,(.ptr n3 0)),(5,(.own n4 0 x18.length)),(6,(AD b19)),(17,(.fz 7 (p0.f1.map BD))),(18,(AB (p0.f1.length:Int))),(19,(AB x14))]∧H=[(n3,(.mem (BK p0))),(Z9 n4 x18)]∧H0 k rec15 x14 x18 b19=some r) ?_ ?_
    ·refine .a 3 ?_;obtain⟨g20,h⟩:=AC h;refine .a 2 ?_;refine .alloc rfl 8 rfl (by decide) rfl DP DH fun n21=>?_;refine .store 0 rfl rfl rfl rfl rfl rfl (.cast .here rfl) rfl rfl EG rfl ?_;refine .nS [2,5,6,8,17,18,19] [1,2,0] ?_;refine .seq ?_;obtain⟨b22,q23,h⟩:=ob h;refine .regM [(2,(.ptr n3 0)),(5,(.own n4 0 x12.length)),(6,(AD b13)),(8,(.ptr n21 0)),(17,(.fz 7 (p0.f1.map BD))),(18,(AB (p0.f1.length:Int))),(19,(AB x14)),(39,(AD b22))] [(n3,(.mem (BK p0))),(Z9 n4 x12),(n21,(.mem (BD (AA p0.f1 x14))))] ?_ ?_
     ·refine .a 3 ?_;rcases oi q23 with⟨c24,q23⟩|⟨c24,q23⟩
      ·refine .a 3 ?_;obtain⟨g25,q23⟩:=AC q23;refine .cG rfl rfl (bD c24) (.idxO 1 rfl rfl rfl rfl g25 Tryz.underlying95 Bw) ?_;refine .cG rfl rfl (bD c24) (.load 1 rfl rfl rfl (.cast (.lidx ((AA p0.f1 x14).f0) g25.1 g25.2 .here) (by omega)) TF Bw) ?_;refine .c (.pickT rfl (bD c24) rfl) ?_;refine .mv rfl rfl ?_;rcases oi q23 with⟨c26,q23⟩|⟨c26,q23⟩
       ·refine .a 3 ?_;obtain⟨g27,q23⟩:=AC q23;refine .cG rfl rfl (bD c26) (.idxO 1 rfl rfl rfl rfl g27 Tryz.underlying95 Bw) ?_;refine .cG rfl rfl (bD c26) (.load 1 rfl rfl rfl (.cast (.lidx ((AA p0.f1 x14).f1) g27.1 g27.2 .here) (by omega)) TF Bw) ?_;refine .cG rfl rfl (bD c26) (.not rfl rfl) ?_;refine .c (.pickT rfl (bD c26) rfl) ?_;cases q23;refine .nilE ⟨rfl,rfl⟩ ?_ ?_
        ·exact⟨rfl,rfl,rfl,rfl,rfl,rfl,rfl,rfl,trivial⟩
        exact(.refl _)
       refine .a 7 ?_;cases q23;refine .nilE ⟨rfl,rfl⟩ ?_ ?_
       ·exact⟨rfl,rfl,rfl,rfl,rfl,rfl,rfl,rfl,trivial⟩
       exact(.refl _)
      refine .a 14 ?_;cases q23;refine .nilE ⟨rfl,rfl⟩ ?_ ?_
      ·exact⟨rfl,rfl,rfl,rfl,rfl,rfl,rfl,rfl,trivial⟩
      exact(.refl _)
     rcases oi h with⟨c28,h⟩|⟨c28,h⟩
     ·refine .a 5 ?_;obtain⟨g29,h⟩:=AC h;refine .a 1 ?_;refine .store 1 rfl rfl rfl rfl rfl rfl (.cast (.lidx ((AA p0.f1 x14).f1) true g29.1 g29.2 .here) (by omega)) rfl rfl Bw rfl ?_;refine .coe 5 (y':=(BL n4 (AU x12 ((AA p0.f1 x14).f1) true).length)) rfl (fun _ _ h=>Ad h) ?_;refine .coe 40 (y':=(BL n4 (AU x12 ((AA p0.f1 x14).f1) true).length)) rfl (fun _ _ h=>Ad h) ?_;refine .a 1 ?_;refine .nS [2,5,6,17,18,19] [0,1] ?_;exact⟨(AU x12 ((AA p0.f1 x14).f1) true),true,rfl,rfl,h⟩
     refine .a 1 ?_;refine .sH [2,5,6,17,18,19] (H':=[(n3,(.mem (BK p0))),(Z9 n4 x12)]) (.cons 0 rfl (.cons 0 rfl (.nil _))) ?_;exact⟨x12,b13,rfl,rfl,h⟩
    rintro _ _ ⟨x18,b19,rfl,rfl,h⟩;rw[H0.eq_1]at h;refine .a 3 ?_;refine .nK [2,5,6,17,18,19] ?_;exact⟨kq16,Nat.lt_succ_self _,x18,b19,(AG (x14+(1:Int))),rfl,rfl,by rw[hrec15];exact h⟩
   refine .a 1 ?_;refine .eK [2,5,6] ?_;exact⟨kq10,Nat.lt_succ_self _,x12,b13,rfl,rfl,by rw[hrec9];exact h⟩
  refine .a 1 ?_;refine .eH [5] (H':=[(Z9 n4 x7)]) (.cons 1 rfl (.nil _)) ?_;exact⟨x7,rfl,rfl,h⟩
 rintro _ _ ⟨x6,rfl,rfl,h⟩;rw[LU.eq_1]at h;refine .a 4 ?_;refine .nK [4] ?_;refine .freezeS 0 [(4,(.fz 1 (x6.map AD)))] rfl ⟨Aj rfl,trivial⟩ ?_;refine .rK [4] ?_;have hr:=Option.some.inj h;subst hr;exact⟨[(.fz 1 (x6.map AD))],⟨rfl,rfl,trivial⟩,rfl⟩
def PF (k:Nat) (x4:(List Int)):Option ByteArray:=
 some ((strOfNums x4))
def JC (k:Nat) (rec7:((List Int)→Int→Option ByteArray)) (x6:Int) (x10:(List Int)):Option ByteArray:=
 rec7 x10 (AG (x6+(1:Int)))
def Ea (k:Nat) (p0:(List Bool)):Nat→(List Int)→Int→Option ByteArray
 | 0,_,_=>none
 | j+1,x5,x6=>
   if x6<(p0.length:Int)then if 0≤x6∧x6<(p0.length:Int)then if(AA p0 x6)=true then if 0≤(IntKind.i64.wrap (x6.tdiv (8:Int)))∧(IntKind.i64.wrap (x6.tdiv (8:Int)))<(x5.length:Int)then if 0≤(u64 (x6.tmod (8:Int)))then if 0≤(IntKind.i64.wrap (x6.tdiv (8:Int)))∧(IntKind.i64.wrap (x6.tdiv (8:Int)))<(x5.length:Int)then JC k (Ea k p0 j) x6 (AU x5 (IntKind.i64.wrap (x6.tdiv (8:Int))) (bits .or .u8 (AA x5 (IntKind.i64.wrap (x6.tdiv (8:Int)))) (IntKind.u8.wrap ((1:Int)*2 ^ (min (u64 (x6.tmod (8:Int))).toNat IntKind.u8.bits)))))
   else none
   else none
   else none
   else JC k (Ea k p0 j) x6 x5
   else none
   else PF k x5
def Xw (k:Nat) (p0:(List Bool)):Option ByteArray:=
 if 0≤(IntKind.i64.wrap ((AG ((p0.length:Int)+(7:Int))).tdiv (8:Int)))∧(IntKind.i64.wrap ((AG ((p0.length:Int)+(7:Int))).tdiv (8:Int)))*(1:Int)≤140737488355328∧(IntKind.i64.wrap ((AG ((p0.length:Int)+(7:Int))).tdiv (8:Int)))≤9223372036854775807 then Ea k p0 k (List.replicate (IntKind.i64.wrap ((AG ((p0.length:Int)+(7:Int))).tdiv (8:Int))).toNat (0:Int)) (0:Int)
 else none
theorem Tf {k:Nat} {p0:(List Bool)} {r:ByteArray} (h:Xw k p0=some r):AY Tryz.prog 92 [(.fz 1 (p0.map AD))] (AN r):=by
 rw[Xw.eq_1]at h;refine AY.intro (res:=[.tmp 2]) Tryz.func92 rfl rfl rfl (Nat.le_of_ble_eq_true rfl) ?_;refine .a 9 ?_;refine .c (x:=AB (IntKind.i64.wrap ((AG ((p0.length:Int)+(7:Int))).tdiv (8:Int)))) (.quo rfl rfl rfl (by decide)) ?_;obtain⟨g3,h⟩:=AC h;refine .makeL (f:=AK) (0:Int) rfl 10 rfl (by decide) rfl rfl rfl Tryz.underlying130 Ew bm Wv PL rfl g3 fun n2=>?_;refine .a 1 ?_;refine .nK [0,3] ?_;refine .seq_mid (fun ρ H=>∃ (x4:(List Int)),ρ=[(3,(.own n2 0 x4.length))]∧H=[(Uy n2 x4)]∧PF k x4=some r) ?_ ?_
 ·refine .a 7 ?_;refine .wK [3,11,12,13] ?_;refine .loop (fun kq ρ H=>∃ (x5:(List Int)) (x6:Int),ρ=[(3,(.own n2 0 x5.length)),(11,(.fz 1 (p0.map AD))),(12,(AB (p0.length:Int))),(13,(AB x6))]∧H=[(Uy n2 x5)]∧Ea k p0 kq x5 x6=some r) k ⟨(List.replicate (IntKind.i64.wrap ((AG ((p0.length:Int)+(7:Int))).tdiv (8:Int))).toNat (0:Int)),(0:Int),rfl,rfl,h⟩ ?_;rintro kq8 _ _ ⟨x5,x6,rfl,rfl,h⟩
  cases kq8 with
  | zero=>rw[Ea.eq_1]at h;cases h
  | succ kq8=>
  rw[Ea.eq_2]at h;generalize hrec7:Ea k p0 kq8=rec7 at h;refine .a 5 ?_;rcases oi h with⟨c9,h⟩|⟨c9,h⟩
  ·refine .a 1 ?_;refine .sK [3,11,12,13] ?_;refine .seq_mid (fun ρ H=>∃ (x10:(List Int)),ρ=[(3,(.own n2 0 x10.length)),(11,(.fz 1 (p0.map AD))),(12,(AB (p0.length:Int))),(13,(AB x6))]∧H=[(Uy n2 x10)]∧JC k rec7 x6 x10=some r) ?_ ?_
   ·refine .a 4 ?_;obtain⟨g11,h⟩:=AC h;refine .a 9 ?_;rcases oi h with⟨c12,h⟩|⟨c12,h⟩
    ·refine .a 4 ?_;refine .c (x:=AB (IntKind.i64.wrap (x6.tdiv (8:Int)))) (.quo rfl rfl rfl (by decide)) ?_;obtain⟨g13,h⟩:=AC h;refine .c (.idxO 0 rfl rfl rfl rfl g13 Tryz.underlying130 Ew) ?_;refine .c (.load 0 rfl rfl rfl (.cast (.lidx (IntKind.i64.wrap (x6.tdiv (8:Int))) g13.1 g13.2 .here) (by omega)) Ol Ew) ?_;refine .mv rfl rfl ?_;refine .c (x:=AB (x6.tmod (8:Int))) (.rem rfl rfl rfl (by decide)) ?_;refine .a 1 ?_;obtain⟨g14,h⟩:=AC h;refine .c (x:=AK (IntKind.u8.wrap ((1:Int)*2 ^ (min (u64 (x6.tmod (8:Int))).toNat IntKind.u8.bits)))) (.shl rfl rfl rfl g14) ?_;refine .a 1 ?_;obtain⟨g15,h⟩:=AC h;refine .a 1 ?_;refine .store 0 rfl rfl rfl rfl rfl rfl (.cast (.lidx (IntKind.i64.wrap (x6.tdiv (8:Int))) (bits .or .u8 (AA x5 (IntKind.i64.wrap (x6.tdiv (8:Int)))) (IntKind.u8.wrap ((1:Int)*2 ^ (min (u64 (x6.tmod (8:Int))).toNat IntKind.u8.bits)))) g15.1 g15.2 .here) (by omega)) rfl rfl Ew rfl ?_;refine .coe 3 (y':=(BL n2 (AU x5 (IntKind.i64.wrap (x6.tdiv (8:Int))) (bits .or .u8 (AA x5 (IntKind.i64.wrap (x6.tdiv (8:Int)))) (IntKind.u8.wrap ((1:Int)*2 ^ (min (u64 (x6.tmod (8:Int))).toNat IntKind.u8.bits))))).length)) rfl (fun _ _ h=>Ad h) ?_;refine .coe 19 (y':=(BL n2 (AU x5 (IntKind.i64.wrap (x6.tdiv (8:Int))) (bits .or .u8 (AA x5 (IntKind.i64.wrap (x6.tdiv (8:Int)))) (IntKind.u8.wrap ((1:Int)*2 ^ (min (u64 (x6.tmod (8:Int))).toNat IntKind.u8.bits))))).length)) rfl (fun _ _ h=>Ad h) ?_;refine .nK [3,11,12,13] ?_
     exact⟨(AU x5 (IntKind.i64.wrap (x6.tdiv (8:Int))) (bits .or .u8 (AA x5 (IntKind.i64.wrap (x6.tdiv (8:Int)))) (IntKind.u8.wrap ((1:Int)*2 ^ (min (u64 (x6.tmod (8:Int))).toNat IntKind.u8.bits))))),rfl,rfl,h⟩
    refine .a 1 ?_;refine .sK [3,11,12,13] ?_;exact⟨x5,rfl,rfl,h⟩
   rintro _ _ ⟨x10,rfl,rfl,h⟩;rw[JC.eq_1]at h;refine .a 3 ?_;refine .nK [3,11,12,13] ?_;exact⟨kq8,Nat.lt_succ_self _,x10,(AG (x6+(1:Int))),rfl,rfl,by rw[hrec7];exact h⟩
  refine .a 1 ?_;refine .eK [3] ?_;exact⟨x5,rfl,rfl,h⟩
 rintro _ _ ⟨x4,rfl,rfl,h⟩;rw[PF.eq_1]at h;refine .a 3 ?_;refine .c (x:=AN (strOfNums x4)) (.strO 0 rfl rfl rfl Tryz.underlying130 Tryz.underlying9 Tryz.underlying5) ?_;refine .a 1 ?_;refine .nS [2] [] ?_;refine .rK [2] ?_;cases h;exact⟨[(AN (strOfNums x4))],⟨rfl,rfl,trivial⟩,rfl⟩
def Vj (k:Nat) (p0:(List Int)) (p1:Int):Option Int:=
 if(p0.length:Int)≤p1 then some ((-1:Int))
 else if 0≤p1∧p1<(p0.length:Int)then some ((AA p0 p1))
 else none
theorem RH {k:Nat} {p0:(List Int)} {p1:Int} {r:Int} (h:Vj k p0 p1=some r):AY Tryz.prog 115 [(.fz 1 (p0.map AB)),(AB p1)] (AB r):=by
 rw[Vj.eq_1]at h;refine AY.intro (res:=[.tmp 4]) Tryz.func115 rfl rfl rfl (Nat.le_of_ble_eq_true rfl) ?_;refine .a 12 ?_;rcases oi h with⟨c3,h⟩|⟨c3,h⟩
 ·refine .a 4 ?_;refine .nK [4] ?_;refine .rK [4] ?_;cases h;exact⟨[(AB (-1:Int))],⟨rfl,rfl,trivial⟩,rfl⟩
 refine .a 6 ?_;obtain⟨g4,h⟩:=AC h;refine .a 3 ?_;refine .nK [4] ?_;refine .rK [4] ?_;cases h;exact⟨[(AB (AA p0 p1))],⟨rfl,rfl,trivial⟩,rfl⟩
def PZ (k:Nat) (x3:Int):Option Int:=
 some (x3)
def Jt (k:Nat) (rec6:(Int→Int→Option Int)) (x5:Int) (x9:Int):Option Int:=
 rec6 x9 (AG (x5+(1:Int)))
def Eo (k:Nat) (p0:DX) (p1:(List Bool)):Nat→Int→Int→Option Int
 | 0,_,_=>none
 | j+1,x4,x5=>
   if x5<(p1.length:Int)then if 0≤x5∧x5<(p1.length:Int)then(Vj k p0.f1 x5).bind fun t11=>
   Option.bind (α:=Bool) (if(AA p1 x5)=true then if(0:Int)≤t11 then if x4<(0:Int)then some (true)
   else some (decide (t11<x4))
   else some (false)
   else some (false)) fun b12=>
   if b12=true then Jt k (Eo k p0 p1 j) x5 t11
   else Jt k (Eo k p0 p1 j) x5 x4
   else none
   else PZ k x4
def al (k:Nat) (p0:DX) (p1:(List Bool)):Option Int:=
 Eo k p0 p1 k (-1:Int) (0:Int)
theorem Se {k:Nat} {p0:DX} {p1:(List Bool)} {r:Int} (h:al k p0 p1=some r) {q0:Nat} {q0_0:Nat} {q0_1:Nat} {q0_2:Nat} {q0_3:Nat} {T0:Aa}:Aq Tryz.prog 93 [(.ptr q0 0),(.fz 1 (p1.map AD))] ((q0,(.mem (.st [(4,(BK p0.f0)),(1,(.fz 1 (p0.f1.map AB))),(1,(.fz 1 (p0.f2.map AK))),(1,(.mp q0_0)),(1,(.own q0_1 0 p0.f4.length)),(258,(.st [(256,(.ar 1 (p0.f5.f0.toList.map AK))),(1,(.own q0_2 0 p0.f5.f1.length)),(1,(.own q0_3 0 p0.f5.f2.length))]))])))::(q0_0,(.map (Am Value.string AB p0.f3)))::(q0_1,(.mem (.ar 1 (p0.f4.map G7))))::(q0_2,(.mem (.ar 1 (p0.f5.f1.map Ce))))::(q0_3,(.mem (.ar 1 (p0.f5.f2.map AB))))::T0) (fun x H'=>x=AB r∧Bd ((q0,(.mem (.st [(4,(BK p0.f0)),(1,(.fz 1 (p0.f1.map AB))),(1,(.fz 1 (p0.f2.map AK))),(1,(.mp q0_0)),(1,(.own q0_1 0 p0.f4.length)),(258,(.st [(256,(.ar 1 (p0.f5.f0.toList.map AK))),(1,(.own q0_2 0 p0.f5.f1.length)),(1,(.own q0_3 0 p0.f5.f2.length))]))])))::(q0_0,(.map (Am Value.string AB p0.f3)))::(q0_1,(.mem (.ar 1 (p0.f4.map G7))))::(q0_2,(.mem (.ar 1 (p0.f5.f1.map Ce))))::(q0_3,(.mem (.ar 1 (p0.f5.f2.map AB))))::T0) H'):=by
 rw[al.eq_1]at h;refine Aq.intro (res:=[.tmp 4]) Tryz.func93 rfl rfl rfl (Nat.le_of_ble_eq_true rfl) ?_;refine .a 7 ?_;refine .nK [0,1,5] ?_;refine .seq_mid (fun ρ H=>∃ (x3:Int),ρ=[(5,(AB x3))]∧H=((Z2 q0 p0.f0 p0.f1 p0.f2 q0_0 q0_1 p0.f4.length (p0.f5.f0.toList.map AK) q0_2 p0.f5.f1.length q0_3 p0.f5.f2.length)::(q0_0,(.map (Am Value.string AB p0.f3)))::(C5 q0_1 p0.f4)::(Z5 q0_2 p0.f5.f1)::(q0_3,(Z3 p0.f5.f2))::T0)∧PZ k x3=some r) ?_ ?_
 ·refine .a 7 ?_;refine .wK [0,5,9,10,11] ?_;refine .loop (fun kq ρ H=>∃ (x4:Int) (x5:Int),ρ=[(0,(.ptr q0 0)),(5,(AB x4)),(9,(.fz 1 (p1.map AD))),(10,(AB (p1.length:Int))),(11,(AB x5))]∧H=((Z2 q0 p0.f0 p0.f1 p0.f2 q0_0 q0_1 p0.f4.length (p0.f5.f0.toList.map AK) q0_2 p0.f5.f1.length q0_3 p0.f5.f2.length)::(q0_0,(.map (Am Value.string AB p0.f3)))::(C5 q0_1 p0.f4)::(Z5 q0_2 p0.f5.f1)::(q0_3,(Z3 p0.f5.f2))::T0)∧Eo k p0 p1 kq x4 x5=some r) k ⟨(-1:Int),(0:Int),rfl,rfl,h⟩ ?_;rintro kq7 _ _ ⟨x4,x5,rfl,rfl,h⟩
  cases kq7 with
  | zero=>rw[Eo.eq_1]at h;cases h
  | succ kq7=>
  rw[Eo.eq_2]at h;generalize hrec6:Eo k p0 p1 kq7=rec6 at h;refine .a 5 ?_;rcases oi h with⟨c8,h⟩|⟨c8,h⟩
  ·refine .a 1 ?_;refine .sK [0,5,9,10,11] ?_;refine .seq_mid (fun ρ H=>∃ (x9:Int),ρ=[(0,(.ptr q0 0)),(5,(AB x9)),(9,(.fz 1 (p1.map AD))),(10,(AB (p1.length:Int))),(11,(AB x5))]∧H=((Z2 q0 p0.f0 p0.f1 p0.f2 q0_0 q0_1 p0.f4.length (p0.f5.f0.toList.map AK) q0_2 p0.f5.f1.length q0_3 p0.f5.f2.length)::(q0_0,(.map (Am Value.string AB p0.f3)))::(C5 q0_1 p0.f4)::(Z5 q0_2 p0.f5.f1)::(q0_3,(Z3 p0.f5.f2))::T0)∧Jt k rec6 x5 x9=some r) ?_ ?_
   ·refine .a 4 ?_;obtain⟨g10,h⟩:=AC h;refine .a 12 ?_;obtain⟨t11,et11,h⟩:=ob h;refine .callS [(Df p0.f1),(AB x5)] (AB t11) 21 rfl (by decide) Zk rfl rfl rfl ⟨rfl,rfl,rfl,rfl,trivial⟩ (RH et11) ?_;refine .a 3 ?_;obtain⟨b12,q13,h⟩:=ob h;refine .regM [(0,(.ptr q0 0)),(5,(AB x4)),(8,(AB t11)),(9,(.fz 1 (p1.map AD))),(10,(AB (p1.length:Int))),(11,(AB x5)),(35,(AD b12))] ((Z2 q0 p0.f0 p0.f1 p0.f2 q0_0 q0_1 p0.f4.length (p0.f5.f0.toList.map AK) q0_2 p0.f5.f1.length q0_3 p0.f5.f2.length)::(q0_0,(.map (Am Value.string AB p0.f3)))::(C5 q0_1 p0.f4)::(Z5 q0_2 p0.f5.f1)::(q0_3,(Z3 p0.f5.f2))::T0) ?_ ?_
    ·refine .a 2 ?_;rcases oi q13 with⟨c14,q13⟩|⟨c14,q13⟩
     ·refine .a 4 ?_;rcases oi q13 with⟨c15,q13⟩|⟨c15,q13⟩
      ·refine .a 3 ?_;rcases oi q13 with⟨c16,q13⟩|⟨c16,q13⟩
       ·refine .a 5 ?_;cases q13;refine .nilE ⟨rfl,rfl⟩ ?_ ?_
        ·exact⟨rfl,rfl,rfl,rfl,rfl,rfl,rfl,trivial⟩
        exact(.refl _)
       refine .a 5 ?_;cases q13;refine .nilE ⟨rfl,rfl⟩ ?_ ?_
       ·exact⟨rfl,rfl,rfl,rfl,rfl,rfl,rfl,trivial⟩
       exact(.refl _)
      refine .a 8 ?_;cases q13;refine .nilE ⟨rfl,rfl⟩ ?_ ?_
      ·exact⟨rfl,rfl,rfl,rfl,rfl,rfl,rfl,trivial⟩
      exact(.refl _)
     refine .a 12 ?_;cases q13;refine .nilE ⟨rfl,rfl⟩ ?_ ?_
     ·exact⟨rfl,rfl,rfl,rfl,rfl,rfl,rfl,trivial⟩
     exact(.refl _)
    rcases oi h with⟨c17,h⟩|⟨c17,h⟩
    ·refine .a 4 ?_;refine .nK [0,5,9,10,11] ?_;exact⟨t11,rfl,rfl,h⟩
    refine .a 1 ?_;refine .sK [0,5,9,10,11] ?_;exact⟨x4,rfl,rfl,h⟩
   rintro _ _ ⟨x9,rfl,rfl,h⟩;rw[Jt.eq_1]at h;refine .a 3 ?_;refine .nK [0,5,9,10,11] ?_;exact⟨kq7,Nat.lt_succ_self _,x9,(AG (x5+(1:Int))),rfl,rfl,by rw[hrec6];exact h⟩
  refine .a 1 ?_;refine .eK [5] ?_;exact⟨x4,rfl,rfl,h⟩
 rintro _ _ ⟨x3,rfl,rfl,h⟩;rw[PZ.eq_1]at h;refine .a 4 ?_;refine .nK [4] ?_;refine .rK [4] ?_;have hr:=Option.some.inj h;subst hr;exact⟨[(AB x3)],⟨rfl,rfl,trivial⟩,rfl,(.cons 0 rfl (.cons 0 rfl (.cons 0 rfl (.cons 0 rfl (.cons 0 rfl (.refl _))))))⟩
end Go.Avl.T8
namespace Go.Avl.T8
open Go Go.RowKit Go.Proofs Go.Avl
set_option linter.unusedVariables false
set_option maxRecDepth 100000
set_option maxHeartbeats 4000000
set_option linter.unusedSimpArgs false
attribute [local irreducible] AW AO AQ AY Aq AH
def Gx (k:Nat) (p0:DX) (p1:(List Bool)) (b3:Bool):Option (Int×DX):=
 if(!b3)=true then some ((-1:Int),(DX.mk p0.f0 p0.f1 p0.f2 p0.f3 p0.f4 (AI.mk p0.f5.f0 p0.f5.f1 p0.f5.f2)))
 else(Xw k p1).bind fun t5=>
 if((Ay p0.f3 t5).isSome)=true then some (((Ay p0.f3 t5).getD (0:Int)),(DX.mk p0.f0 p0.f1 p0.f2 p0.f3 p0.f4 (AI.mk p0.f5.f0 p0.f5.f1 p0.f5.f2)))
 else if(p0.f4++([p1]:List (List Bool))).length*24≤140737488355328 then(al k (DX.mk p0.f0 p0.f1 p0.f2 (BE p0.f3 t5 (p0.f4.length:Int)) (p0.f4++([p1]:List (List Bool))) (AI.mk p0.f5.f0 p0.f5.f1 p0.f5.f2)) p1).bind fun t10=>
 if(p0.f5.f2++([t10]:List Int)).length*8≤140737488355328 then(some (AG (((p0.f4++([p1]:List (List Bool))).length:Int) - (1:Int)))).bind fun x15=>
 some (x15,(DX.mk p0.f0 p0.f1 p0.f2 (BE p0.f3 t5 (p0.f4.length:Int)) (p0.f4++([p1]:List (List Bool))) (AI.mk p0.f5.f0 p0.f5.f1 (p0.f5.f2++([t10]:List Int)))))
 else none
 else none
def FK (k:Nat) (p0:DX) (p1:(List Bool)):Nat→Bool→Int→Option (Int×DX)
 | 0,_,_=>none
 | j+1,b16,x17=>
   if x17<(p1.length:Int)then if 0≤x17∧x17<(p1.length:Int)then Option.bind (α:=Bool) (if b16=true then some (true)
   else some ((AA p1 x17))) fun b22=>
   (FK k p0 p1 j) b22 (AG (x17+(1:Int)))
   else none
   else Gx k p0 p1 b16
def Xi (k:Nat) (p0:DX) (p1:(List Bool)):Option (Int×DX):=
 FK k p0 p1 k false (0:Int)
theorem N5 {k:Nat} {p0:DX} {p1:(List Bool)} {r:(Int×DX)} (h:Xi k p0 p1=some r) {q0:Nat} {q0_0:Nat} {q0_1:Nat} {q0_2:Nat} {q0_3:Nat} {T0:Aa}:Aq Tryz.prog 69 [(.ptr q0 0),(.fz 1 (p1.map AD))] ((q0,(.mem (.st [(4,(BK p0.f0)),(1,(.fz 1 (p0.f1.map AB))),(1,(.fz 1 (p0.f2.map AK))),(1,(.mp q0_0)),(1,(.own q0_1 0 p0.f4.length)),(258,(.st [(256,(.ar 1 (p0.f5.f0.toList.map AK))),(1,(.own q0_2 0 p0.f5.f1.length)),(1,(.own q0_3 0 p0.f5.f2.length))]))])))::(q0_0,(.map (Am Value.string AB p0.f3)))::(q0_1,(.mem (.ar 1 (p0.f4.map G7))))::(q0_2,(.mem (.ar 1 (p0.f5.f1.map Ce))))::(q0_3,(.mem (.ar 1 (p0.f5.f2.map AB))))::T0) (fun x H'=>∃ m0_0 m0_1 m0_2 m0_3,x=(AB r.1)∧Bd ((q0,(.mem (.st [(4,(BK r.2.f0)),(1,(.fz 1 (r.2.f1.map AB))),(1,(.fz 1 (r.2.f2.map AK))),(1,(.mp m0_0)),(1,(.own m0_1 0 r.2.f4.length)),(258,(.st [(256,(.ar 1 (r.2.f5.f0.toList.map AK))),(1,(.own m0_2 0 r.2.f5.f1.length)),(1,(.own m0_3 0 r.2.f5.f2.length))]))])))::(m0_0,(.map (Am Value.string AB r.2.f3)))::(m0_1,(.mem (.ar 1 (r.2.f4.map G7))))::(m0_2,(.mem (.ar 1 (r.2.f5.f1.map Ce))))::(m0_3,(.mem (.ar 1 (r.2.f5.f2.map AB))))::T0) H'):=by
 rw[Xi.eq_1]at h;refine Aq.intro (res:=[.tmp 4]) Tryz.func69 rfl rfl rfl (Nat.le_of_ble_eq_true rfl) ?_;refine .a 7 ?_;refine .nK [0,1,5] ?_;refine .seq_mid (fun ρ H=>∃ (b3:Bool),ρ=[(0,(.ptr q0 0)),(1,(.fz 1 (p1.map AD))),(5,(AD b3))]∧H=((Z2 q0 p0.f0 p0.f1 p0.f2 q0_0 q0_1 p0.f4.length (p0.f5.f0.toList.map AK) q0_2 p0.f5.f1.length q0_3 p0.f5.f2.length)::(q0_0,(.map (Am Value.string AB p0.f3)))::(C5 q0_1 p0.f4)::(Z5 q0_2 p0.f5.f1)::(q0_3,(Z3 p0.f5.f2))::T0)∧Gx k p0 p1 b3=some r) ?_ ?_
 ·refine .a 7 ?_;refine .wK [0,1,5,11,12,13] ?_;refine .loop (fun kq ρ H=>∃ (b16:Bool) (x17:Int),ρ=[(0,(.ptr q0 0)),(1,(.fz 1 (p1.map AD))),(5,(AD b16)),(11,(.fz 1 (p1.map AD))),(12,(AB (p1.length:Int))),(13,(AB x17))]∧H=((Z2 q0 p0.f0 p0.f1 p0.f2 q0_0 q0_1 p0.f4.length (p0.f5.f0.toList.map AK) q0_2 p0.f5.f1.length q0_3 p0.f5.f2.length)::(q0_0,(.map (Am Value.string AB p0.f3)))::(C5 q0_1 p0.f4)::(Z5 q0_2 p0.f5.f1)::(q0_3,(Z3 p0.f5.f2))::T0)∧FK k p0 p1 kq b16 x17=some r) k ⟨false,(0:Int),rfl,rfl,h⟩ ?_;rintro kq19 _ _ ⟨b16,x17,rfl,rfl,h⟩
  cases kq19 with
  | zero=>rw[FK.eq_1]at h;cases h
  | succ kq19=>
  rw[FK.eq_2]at h;generalize hrec18:FK k p0 p1 kq19=rec18 at h;refine .a 5 ?_;rcases oi h with⟨c20,h⟩|⟨c20,h⟩
  ·refine .a 6 ?_;obtain⟨g21,h⟩:=AC h;refine .a 4 ?_;obtain⟨b22,q23,h⟩:=ob h;refine .regM [(0,(.ptr q0 0)),(1,(.fz 1 (p1.map AD))),(5,(AD b22)),(11,(.fz 1 (p1.map AD))),(12,(AB (p1.length:Int))),(13,(AB x17))] ((Z2 q0 p0.f0 p0.f1 p0.f2 q0_0 q0_1 p0.f4.length (p0.f5.f0.toList.map AK) q0_2 p0.f5.f1.length q0_3 p0.f5.f2.length)::(q0_0,(.map (Am Value.string AB p0.f3)))::(C5 q0_1 p0.f4)::(Z5 q0_2 p0.f5.f1)::(q0_3,(Z3 p0.f5.f2))::T0) ?_ ?_
   ·refine .a 2 ?_;rcases oi q23 with⟨c24,q23⟩|⟨c24,q23⟩
    ·refine .a 3 ?_;cases q23;refine .nilE ⟨rfl,rfl⟩ ?_ ?_
     ·exact⟨rfl,rfl,rfl,rfl,rfl,rfl,trivial⟩
     exact(.refl _)
    refine .a 3 ?_;cases q23;refine .nilE ⟨rfl,rfl⟩ ?_ ?_
    ·exact⟨rfl,rfl,rfl,rfl,rfl,rfl,trivial⟩
    exact(.refl _)
   refine .a 3 ?_;refine .nK [0,1,5,11,12,13] ?_;exact⟨kq19,Nat.lt_succ_self _,b22,(AG (x17+(1:Int))),rfl,rfl,by rw[hrec18];exact h⟩
  refine .a 1 ?_;refine .eK [0,1,5] ?_;exact⟨b16,rfl,rfl,h⟩
 rintro _ _ ⟨b3,rfl,rfl,h⟩;rw[Gx.eq_1]at h;refine .a 6 ?_;rcases oi h with⟨c4,h⟩|⟨c4,h⟩
 ·refine .a 4 ?_;refine .nK [4] ?_;refine .rK [4] ?_;cases h;exact⟨[(AB (-1:Int))],⟨rfl,rfl,trivial⟩,q0_0,q0_1,q0_2,q0_3,rfl,(.cons 0 rfl (.cons 0 rfl (.cons 0 rfl (.cons 0 rfl (.cons 0 rfl (.refl _))))))⟩
 refine .a 5 ?_;obtain⟨t5,et5,h⟩:=ob h;refine .callS [(.fz 1 (p1.map AD))] (AN t5) 25 rfl (by decide) ba rfl rfl rfl ⟨rfl,rfl,trivial⟩ (Tf et5) ?_;refine .a 10 ?_;refine .c (x:=.tup [(AB ((Ay p0.f3 t5).getD (0:Int))),(AD ((Ay p0.f3 t5).isSome))]) (.look2 (f:=AB) BO BN (0:Int) 1 rfl rfl rfl rfl Tryz.underlying97 Tryz.underlying9 Ym) ?_;refine .a 10 ?_;rcases oi h with⟨c6,h⟩|⟨c6,h⟩
 ·refine .a 5 ?_;refine .nK [4] ?_;refine .rK [4] ?_;cases h;exact⟨[(AB ((Ay p0.f3 t5).getD (0:Int)))],⟨rfl,rfl,trivial⟩,q0_0,q0_1,q0_2,q0_3,rfl,(.cons 0 rfl (.cons 0 rfl (.cons 0 rfl (.cons 0 rfl (.cons 0 rfl (.refl _))))))⟩
 refine .a 3 ?_;refine .regEff (by rfl) (by decide+kernel) (fun (σ:Nat→Nat)=>([(.ptr q0 0),(.ptr q0 0),(.ptr q0 6),(.mp q0_0),(AN t5),(.ptr q0 0),(.ptr q0 0),(.ptr q0 7),(BL q0_1 p0.f4.length),(AB (p0.f4.length:Int)),(.fl undef)]:List AV)) (fun (L:Nat→Bool) (σ:Nat→Nat)=>((Z2 q0 p0.f0 p0.f1 p0.f2 q0_0 q0_1 p0.f4.length (p0.f5.f0.toList.map AK) q0_2 p0.f5.f1.length q0_3 p0.f5.f2.length)::(C5 q0_1 p0.f4)::(Z5 q0_2 p0.f5.f1)::(q0_3,(Z3 p0.f5.f2))::(bif L 10 then((q0_0,(.map (Am Value.string AB (BE p0.f3 t5 (p0.f4.length:Int)))))::T0)else((q0_0,(.map (Am Value.string AB p0.f3)))::T0)):Aa)) [(0,(.ptr q0 0)),(1,(.fz 1 (p1.map AD))),(8,(AN t5))] ⟨rfl,rfl,rfl,trivial⟩ (fun _=>rfl) (fun σ=>(.cons 0 rfl (.cons 1 rfl (.cons 1 rfl (.cons 1 rfl (.cons 0 rfl (.refl _))))))) ⟨?_,?_,?_,?_,?_,?_,?_,?_,?_,?_,?_,trivial⟩ (fun σ=>[(0,(.ptr q0 0)),(1,(.fz 1 (p1.map AD)))]) (fun σ=>((Z2 q0 p0.f0 p0.f1 p0.f2 q0_0 q0_1 p0.f4.length (p0.f5.f0.toList.map AK) q0_2 p0.f5.f1.length q0_3 p0.f5.f2.length)::(C5 q0_1 p0.f4)::(Z5 q0_2 p0.f5.f1)::(q0_3,(Z3 p0.f5.f2))::(q0_0,(.map (Am Value.string AB (BE p0.f3 t5 (p0.f4.length:Int)))))::T0)) (fun σ=>⟨rfl,rfl,trivial⟩) (fun σ=>.refl _) (fun σ=>?_)
 ·refine .calm (fun _ _=>rfl) fun L σ hc hi hd=>?_;refine .a 1 ?_;exact .nE (d:=37) rfl ⟨⟨37,_,rfl,rfl,rfl⟩,.refl _⟩
 ·refine .calm (fun _ _=>rfl) fun L σ hc hi hd=>?_;refine .a 1 ?_;exact .nE (d:=38) rfl ⟨⟨38,_,rfl,rfl,rfl⟩,.refl _⟩
 ·refine .calm (fun _ _=>rfl) fun L σ hc hi hd=>?_;refine .a 1 ?_;exact .nE (d:=39) rfl ⟨⟨39,_,rfl,rfl,rfl⟩,.refl _⟩
 ·refine .calm (fun _ _=>rfl) fun L σ hc hi hd=>?_;refine .a 1 ?_;exact .nE (d:=40) rfl ⟨⟨40,_,rfl,rfl,rfl⟩,.refl _⟩
 ·refine .calm (fun _ _=>rfl) fun L σ hc hi hd=>?_;refine .a 1 ?_;exact .nE (d:=41) rfl ⟨⟨41,_,rfl,rfl,rfl⟩,.refl _⟩
 ·refine .calm (fun _ _=>rfl) fun L σ hc hi hd=>?_;refine .a 1 ?_;exact .nE (d:=42) rfl ⟨⟨42,_,rfl,rfl,rfl⟩,.refl _⟩
 ·refine .calm (fun _ _=>rfl) fun L σ hc hi hd=>?_;refine .a 1 ?_;exact .nE (d:=43) rfl ⟨⟨43,_,rfl,rfl,rfl⟩,.refl _⟩
 ·refine .calm (fun _ _=>rfl) fun L σ hc hi hd=>?_;refine .a 1 ?_;exact .nE (d:=44) rfl ⟨⟨44,_,rfl,rfl,rfl⟩,.refl _⟩
 ·refine .calm (fun _ _=>rfl) fun L σ hc hi hd=>?_;refine .a 1 ?_;exact .nE (d:=45) rfl ⟨⟨45,_,rfl,rfl,rfl⟩,.refl _⟩
 ·refine .calm (fun _ _=>rfl) fun L σ hc hi hd=>?_;refine .a 1 ?_;exact .nE (d:=46) rfl ⟨⟨46,_,rfl,rfl,rfl⟩,.refl _⟩
 ·intro L σ hc hi hd;refine .heq (H':=((Z2 q0 p0.f0 p0.f1 p0.f2 q0_0 q0_1 p0.f4.length (p0.f5.f0.toList.map AK) q0_2 p0.f5.f1.length q0_3 p0.f5.f2.length)::(C5 q0_1 p0.f4)::(Z5 q0_2 p0.f5.f1)::(q0_3,(Z3 p0.f5.f2))::(q0_0,(.map (Am Value.string AB p0.f3)))::T0)) (by first|rfl|simp only[hi,cond_true,cond_false]) ?_;refine .wK [40,41,46] ?_;refine .mapPut (f:=AB) BO BN 4 rfl rfl rfl rfl rfl rfl rfl rfl Tryz.underlying97 Tryz.underlying9 ?_;have a10:A5 L 10 10=true:=rfl;exact .n0 ⟨σ,(fun _ _=>rfl),(fun d' hd'=>by cases hd'),.of_eq (B:=((Z2 q0 p0.f0 p0.f1 p0.f2 q0_0 q0_1 p0.f4.length (p0.f5.f0.toList.map AK) q0_2 p0.f5.f1.length q0_3 p0.f5.f2.length)::(C5 q0_1 p0.f4)::(Z5 q0_2 p0.f5.f1)::(q0_3,(Z3 p0.f5.f2))::(q0_0,(.map (Am Value.string AB (BE p0.f3 t5 (p0.f4.length:Int)))))::T0)) (by simp only[a10,cond_true,cond_false]) (.refl _)⟩
 refine .nH [0,1] (H':=((Z2 q0 p0.f0 p0.f1 p0.f2 q0_0 q0_1 p0.f4.length (p0.f5.f0.toList.map AK) q0_2 p0.f5.f1.length q0_3 p0.f5.f2.length)::(q0_0,(.map (Am Value.string AB (BE p0.f3 t5 (p0.f4.length:Int)))))::(C5 q0_1 p0.f4)::(Z5 q0_2 p0.f5.f1)::(q0_3,(Z3 p0.f5.f2))::T0)) (.cons 0 rfl (.cons 3 rfl (.cons 0 rfl (.cons 0 rfl (.cons 0 rfl (.refl _)))))) ?_;refine .a 8 ?_;refine .lit (Z:=(.fl (.slice none 0 0))) (xs:=(([p1]:List (List Bool)).map G7)) (qs:=[(0,(.fz 1 (p1.map AD)))]) rfl 53 rfl (by decide) rfl ⟨rfl,rfl,rfl,trivial⟩ Tryz.underlying93 IW VA XI rfl (by decide) (An (z:=1) [(.fz 1 (p1.map AD))] rfl ⟨⟨rfl,rfl⟩,trivial⟩) rfl fun n7=>?_;obtain⟨g9,h⟩:=AC h;refine .appendL (l:=p0.f4) (m:=([p1]:List (List Bool))) 3 54 rfl (by decide) rfl rfl rfl rfl rfl (CS.ownL (f:=G7) (l:=([p1]:List (List Bool))) 0 rfl) Tryz.underlying93 Tryz.underlying93 IW ZL VA rfl g9 (by decide) fun n8=>?_;refine .a 2 ?_;refine .store 1 rfl rfl rfl rfl rfl rfl (.cast (.fldS (.fldS (.fldS (.fldS (.fld0 .here))))) rfl) rfl rfl Ze rfl ?_;refine .nH [0,1] (H':=((Z2 q0 p0.f0 p0.f1 p0.f2 q0_0 n8 (p0.f4++([p1]:List (List Bool))).length (p0.f5.f0.toList.map AK) q0_2 p0.f5.f1.length q0_3 p0.f5.f2.length)::(q0_0,(.map (Am Value.string AB (BE p0.f3 t5 (p0.f4.length:Int)))))::(C5 n8 (p0.f4++([p1]:List (List Bool))))::(Z5 q0_2 p0.f5.f1)::(q0_3,(Z3 p0.f5.f2))::T0)) (.cons 1 rfl (.cons 1 rfl (.cons 1 rfl (.cons 1 rfl (.cons 1 rfl (.drop (.refl _))))))) ?_;refine .seq ?_;obtain⟨t10,et10,h⟩:=ob h;obtain⟨g14,h⟩:=AC h
 refine .regEff (by rfl) (by decide+kernel) (fun (σ:Nat→Nat)=>([(.ptr q0 0),(.ptr q0 0),(.ptr q0 0),(.ptr q0 8),(.ptr q0 265),(BL q0_3 p0.f5.f2.length),(.ptr q0 0),(.fz 1 (p1.map AD)),(AB t10),(Df ([t10]:List Int)),(BL (σ 10) (p0.f5.f2++([t10]:List Int)).length),(.ptr q0 0),(.ptr q0 8),(.ptr q0 265),(.fl undef)]:List AV)) (fun (L:Nat→Bool) (σ:Nat→Nat)=>((q0_0,(.map (Am Value.string AB (BE p0.f3 t5 (p0.f4.length:Int)))))::(C5 n8 (p0.f4++([p1]:List (List Bool))))::(Z5 q0_2 p0.f5.f1)::(bif L 10 then(bif L 14 then((Z2 q0 p0.f0 p0.f1 p0.f2 q0_0 n8 (p0.f4++([p1]:List (List Bool))).length (p0.f5.f0.toList.map AK) q0_2 p0.f5.f1.length (σ 10) (p0.f5.f2++([t10]:List Int)).length)::((σ 10),(Z3 (p0.f5.f2++([t10]:List Int))))::T0)else((Z2 q0 p0.f0 p0.f1 p0.f2 q0_0 n8 (p0.f4++([p1]:List (List Bool))).length (p0.f5.f0.toList.map AK) q0_2 p0.f5.f1.length q0_3 p0.f5.f2.length)::((σ 10),(Z3 (p0.f5.f2++([t10]:List Int))))::T0))else((Z2 q0 p0.f0 p0.f1 p0.f2 q0_0 n8 (p0.f4++([p1]:List (List Bool))).length (p0.f5.f0.toList.map AK) q0_2 p0.f5.f1.length q0_3 p0.f5.f2.length)::(q0_3,(Z3 p0.f5.f2))::T0)):Aa)) [(0,(.ptr q0 0)),(1,(.fz 1 (p1.map AD)))] ⟨rfl,rfl,trivial⟩ (fun _=>rfl) (fun σ=>(.cons 1 rfl (.cons 1 rfl (.cons 1 rfl (.cons 0 rfl (.cons 0 rfl (.refl _))))))) ⟨?_,?_,?_,?_,?_,?_,?_,?_,?_,?_,?_,?_,?_,?_,?_,trivial⟩ (fun σ=>[(0,(.ptr q0 0))]) (fun σ=>((q0_0,(.map (Am Value.string AB (BE p0.f3 t5 (p0.f4.length:Int)))))::(C5 n8 (p0.f4++([p1]:List (List Bool))))::(Z5 q0_2 p0.f5.f1)::(Z2 q0 p0.f0 p0.f1 p0.f2 q0_0 n8 (p0.f4++([p1]:List (List Bool))).length (p0.f5.f0.toList.map AK) q0_2 p0.f5.f1.length (σ 10) (p0.f5.f2++([t10]:List Int)).length)::((σ 10),(Z3 (p0.f5.f2++([t10]:List Int))))::T0)) (fun σ=>⟨rfl,trivial⟩) (fun σ=>.refl _) (fun σ=>?_)
 ·refine .calm (fun _ _=>rfl) fun L σ hc hi hd=>?_;have m14:L 14=false:=hc.neg (i:=0) (j:=14) rfl (by rfl) hi
  cases b10:L 10 with
  | true=>
    refine .heq (H':=((q0_0,(.map (Am Value.string AB (BE p0.f3 t5 (p0.f4.length:Int)))))::(C5 n8 (p0.f4++([p1]:List (List Bool))))::(Z5 q0_2 p0.f5.f1)::(Z2 q0 p0.f0 p0.f1 p0.f2 q0_0 n8 (p0.f4++([p1]:List (List Bool))).length (p0.f5.f0.toList.map AK) q0_2 p0.f5.f1.length q0_3 p0.f5.f2.length)::((σ 10),(Z3 (p0.f5.f2++([t10]:List Int))))::T0)) (by first|rfl|simp only[b10,m14,cond_true,cond_false]) ?_;refine .a 1 ?_;exact .nE (d:=57) rfl ⟨⟨57,_,rfl,rfl,rfl⟩,.of_eq (by first|rfl|simp only[b10,m14,cond_true,cond_false]) (.refl _)⟩
  | false=>
    refine .heq (H':=((q0_0,(.map (Am Value.string AB (BE p0.f3 t5 (p0.f4.length:Int)))))::(C5 n8 (p0.f4++([p1]:List (List Bool))))::(Z5 q0_2 p0.f5.f1)::(Z2 q0 p0.f0 p0.f1 p0.f2 q0_0 n8 (p0.f4++([p1]:List (List Bool))).length (p0.f5.f0.toList.map AK) q0_2 p0.f5.f1.length q0_3 p0.f5.f2.length)::(q0_3,(Z3 p0.f5.f2))::T0)) (by first|rfl|simp only[b10,m14,cond_true,cond_false]) ?_;refine .a 1 ?_;exact .nE (d:=57) rfl ⟨⟨57,_,rfl,rfl,rfl⟩,.of_eq (by first|rfl|simp only[b10,m14,cond_true,cond_false]) (.refl _)⟩
 ·refine .calm (fun _ _=>rfl) fun L σ hc hi hd=>?_;have m2:L 2=false:=hc.neg (i:=1) (j:=2) rfl (by rfl) hi;have m3:L 3=false:=hc.neg (i:=2) (j:=3) rfl (by rfl) m2;have m4:L 4=false:=hc.neg (i:=3) (j:=4) rfl (by rfl) m3;have m5:L 5=false:=hc.neg (i:=4) (j:=5) rfl (by rfl) m4;have m10:L 10=false:=hc.neg (i:=5) (j:=10) rfl (by rfl) m5;have m14:L 14=false:=hc.neg (i:=1) (j:=14) rfl (by rfl) hi;refine .heq (H':=((q0_0,(.map (Am Value.string AB (BE p0.f3 t5 (p0.f4.length:Int)))))::(C5 n8 (p0.f4++([p1]:List (List Bool))))::(Z5 q0_2 p0.f5.f1)::(Z2 q0 p0.f0 p0.f1 p0.f2 q0_0 n8 (p0.f4++([p1]:List (List Bool))).length (p0.f5.f0.toList.map AK) q0_2 p0.f5.f1.length q0_3 p0.f5.f2.length)::(q0_3,(Z3 p0.f5.f2))::T0)) (by first|rfl|simp only[m10,m14,cond_true,cond_false]) ?_;refine .a 1 ?_;exact .nE (d:=58) rfl ⟨⟨58,_,rfl,rfl,rfl⟩,.of_eq (by first|rfl|simp only[m10,m14,cond_true,cond_false]) (.refl _)⟩
 ·refine .calm (fun _ _=>rfl) fun L σ hc hi hd=>?_;have m3:L 3=false:=hc.neg (i:=2) (j:=3) rfl (by rfl) hi;have m4:L 4=false:=hc.neg (i:=3) (j:=4) rfl (by rfl) m3;have m5:L 5=false:=hc.neg (i:=4) (j:=5) rfl (by rfl) m4;have m10:L 10=false:=hc.neg (i:=5) (j:=10) rfl (by rfl) m5;have m14:L 14=false:=hc.neg (i:=2) (j:=14) rfl (by rfl) hi;refine .heq (H':=((q0_0,(.map (Am Value.string AB (BE p0.f3 t5 (p0.f4.length:Int)))))::(C5 n8 (p0.f4++([p1]:List (List Bool))))::(Z5 q0_2 p0.f5.f1)::(Z2 q0 p0.f0 p0.f1 p0.f2 q0_0 n8 (p0.f4++([p1]:List (List Bool))).length (p0.f5.f0.toList.map AK) q0_2 p0.f5.f1.length q0_3 p0.f5.f2.length)::(q0_3,(Z3 p0.f5.f2))::T0)) (by first|rfl|simp only[m10,m14,cond_true,cond_false]) ?_;refine .a 1 ?_;exact .nE (d:=59) rfl ⟨⟨59,_,rfl,rfl,rfl⟩,.of_eq (by first|rfl|simp only[m10,m14,cond_true,cond_false]) (.refl _)⟩
 ·refine .calm (fun _ _=>rfl) fun L σ hc hi hd=>?_;have m4:L 4=false:=hc.neg (i:=3) (j:=4) rfl (by rfl) hi;have m5:L 5=false:=hc.neg (i:=4) (j:=5) rfl (by rfl) m4;have m10:L 10=false:=hc.neg (i:=5) (j:=10) rfl (by rfl) m5;have m14:L 14=false:=hc.neg (i:=3) (j:=14) rfl (by rfl) hi;refine .heq (H':=((q0_0,(.map (Am Value.string AB (BE p0.f3 t5 (p0.f4.length:Int)))))::(C5 n8 (p0.f4++([p1]:List (List Bool))))::(Z5 q0_2 p0.f5.f1)::(Z2 q0 p0.f0 p0.f1 p0.f2 q0_0 n8 (p0.f4++([p1]:List (List Bool))).length (p0.f5.f0.toList.map AK) q0_2 p0.f5.f1.length q0_3 p0.f5.f2.length)::(q0_3,(Z3 p0.f5.f2))::T0)) (by first|rfl|simp only[m10,m14,cond_true,cond_false]) ?_;refine .a 1 ?_;exact .nE (d:=60) rfl ⟨⟨60,_,rfl,rfl,rfl⟩,.of_eq (by first|rfl|simp only[m10,m14,cond_true,cond_false]) (.refl _)⟩
 ·refine .calm (fun _ _=>rfl) fun L σ hc hi hd=>?_;have m5:L 5=false:=hc.neg (i:=4) (j:=5) rfl (by rfl) hi;have m10:L 10=false:=hc.neg (i:=5) (j:=10) rfl (by rfl) m5;have m14:L 14=false:=hc.neg (i:=4) (j:=14) rfl (by rfl) hi;refine .heq (H':=((q0_0,(.map (Am Value.string AB (BE p0.f3 t5 (p0.f4.length:Int)))))::(C5 n8 (p0.f4++([p1]:List (List Bool))))::(Z5 q0_2 p0.f5.f1)::(Z2 q0 p0.f0 p0.f1 p0.f2 q0_0 n8 (p0.f4++([p1]:List (List Bool))).length (p0.f5.f0.toList.map AK) q0_2 p0.f5.f1.length q0_3 p0.f5.f2.length)::(q0_3,(Z3 p0.f5.f2))::T0)) (by first|rfl|simp only[m10,m14,cond_true,cond_false]) ?_;refine .a 1 ?_;exact .nE (d:=61) rfl ⟨⟨61,_,rfl,rfl,rfl⟩,.of_eq (by first|rfl|simp only[m10,m14,cond_true,cond_false]) (.refl _)⟩
 ·refine .calm (fun _ _=>rfl) fun L σ hc hi hd=>?_;have m10:L 10=false:=hc.neg (i:=5) (j:=10) rfl (by rfl) hi;have m14:L 14=false:=hc.neg (i:=5) (j:=14) rfl (by rfl) hi;refine .heq (H':=((q0_0,(.map (Am Value.string AB (BE p0.f3 t5 (p0.f4.length:Int)))))::(C5 n8 (p0.f4++([p1]:List (List Bool))))::(Z5 q0_2 p0.f5.f1)::(Z2 q0 p0.f0 p0.f1 p0.f2 q0_0 n8 (p0.f4++([p1]:List (List Bool))).length (p0.f5.f0.toList.map AK) q0_2 p0.f5.f1.length q0_3 p0.f5.f2.length)::(q0_3,(Z3 p0.f5.f2))::T0)) (by first|rfl|simp only[m10,m14,cond_true,cond_false]) ?_;refine .a 1 ?_;exact .nE (d:=62) rfl ⟨⟨62,_,rfl,rfl,rfl⟩,.of_eq (by first|rfl|simp only[m10,m14,cond_true,cond_false]) (.refl _)⟩
 ·refine .calm (fun _ _=>rfl) fun L σ hc hi hd=>?_;have m8:L 8=false:=hc.neg (i:=6) (j:=8) rfl (by rfl) hi;have m10:L 10=false:=hc.neg (i:=8) (j:=10) rfl (by rfl) m8;have m14:L 14=false:=hc.neg (i:=6) (j:=14) rfl (by rfl) hi;refine .heq (H':=((q0_0,(.map (Am Value.string AB (BE p0.f3 t5 (p0.f4.length:Int)))))::(C5 n8 (p0.f4++([p1]:List (List Bool))))::(Z5 q0_2 p0.f5.f1)::(Z2 q0 p0.f0 p0.f1 p0.f2 q0_0 n8 (p0.f4++([p1]:List (List Bool))).length (p0.f5.f0.toList.map AK) q0_2 p0.f5.f1.length q0_3 p0.f5.f2.length)::(q0_3,(Z3 p0.f5.f2))::T0)) (by first|rfl|simp only[m10,m14,cond_true,cond_false]) ?_;refine .a 1 ?_;exact .nE (d:=63) rfl ⟨⟨63,_,rfl,rfl,rfl⟩,.of_eq (by first|rfl|simp only[m10,m14,cond_true,cond_false]) (.refl _)⟩
 ·refine .calm (fun _ _=>rfl) fun L σ hc hi hd=>?_;refine .a 1 ?_;exact .nE (d:=64) rfl ⟨⟨64,_,rfl,rfl,rfl⟩,.refl _⟩
 ·refine .calm (fun _ _=>rfl) fun L σ hc hi hd=>?_;have m10:L 10=false:=hc.neg (i:=8) (j:=10) rfl (by rfl) hi;have m14:L 14=false:=hc.neg (i:=8) (j:=14) rfl (by rfl) hi;refine .heq (H':=((q0_0,(.map (Am Value.string AB (BE p0.f3 t5 (p0.f4.length:Int)))))::(C5 n8 (p0.f4++([p1]:List (List Bool))))::(Z5 q0_2 p0.f5.f1)::(Z2 q0 p0.f0 p0.f1 p0.f2 q0_0 n8 (p0.f4++([p1]:List (List Bool))).length (p0.f5.f0.toList.map AK) q0_2 p0.f5.f1.length q0_3 p0.f5.f2.length)::(q0_3,(Z3 p0.f5.f2))::T0)) (by first|rfl|simp only[m10,m14,cond_true,cond_false]) ?_;refine .wK [63,64] ?_;refine .callH [(.ptr q0 0),(.fz 1 (p1.map AD))] ((Z2 q0 p0.f0 p0.f1 p0.f2 q0_0 n8 (p0.f4++([p1]:List (List Bool))).length (p0.f5.f0.toList.map AK) q0_2 p0.f5.f1.length q0_3 p0.f5.f2.length)::(q0_0,(.map (Am Value.string AB (BE p0.f3 t5 (p0.f4.length:Int)))))::(C5 n8 (p0.f4++([p1]:List (List Bool))))::(Z5 q0_2 p0.f5.f1)::(q0_3,(Z3 p0.f5.f2))::T0) _ rfl rfl rfl 65 rfl (by decide) bV ⟨rfl,rfl,rfl,rfl,trivial⟩ (.cons 3 rfl (.cons 0 rfl (.cons 0 rfl (.cons 0 rfl (.cons 0 rfl (.refl _)))))) (Se et10) ?_;rintro _ _ ⟨rfl,hs11⟩;refine .wH [63,64,65] hs11 ?_
  refine .wH [63,64,65] (H':=((q0_0,(.map (Am Value.string AB (BE p0.f3 t5 (p0.f4.length:Int)))))::(C5 n8 (p0.f4++([p1]:List (List Bool))))::(Z5 q0_2 p0.f5.f1)::(Z2 q0 p0.f0 p0.f1 p0.f2 q0_0 n8 (p0.f4++([p1]:List (List Bool))).length (p0.f5.f0.toList.map AK) q0_2 p0.f5.f1.length q0_3 p0.f5.f2.length)::(q0_3,(Z3 p0.f5.f2))::T0)) (.cons 1 rfl (.cons 1 rfl (.cons 1 rfl (.cons 0 rfl (.cons 0 rfl (.refl _)))))) ?_;exact .nE (d:=65) rfl ⟨⟨65,_,rfl,rfl,rfl⟩,.of_eq (by first|rfl|simp only[m10,m14,cond_true,cond_false]) (.refl _)⟩
 ·refine .calm (fun _ _=>rfl) fun L σ hc hi hd=>?_;refine .wK [65] ?_;refine .lit (Z:=(AB (0:Int))) (xs:=(([t10]:List Int).map AB)) (qs:=[(0,(AB t10))]) rfl 66 rfl (by decide) rfl ⟨rfl,rfl,rfl,trivial⟩ Tryz.underlying40 Bb Fj DT rfl (by decide) (An (z:=1) [(AB t10)] rfl ⟨⟨rfl,rfl⟩,trivial⟩) rfl fun n12=>?_;refine .freezeS 0 [(66,(Df ([t10]:List Int)))] rfl ⟨Aj rfl,trivial⟩ ?_;exact .nE (d:=66) rfl ⟨⟨66,_,rfl,rfl,rfl⟩,.refl _⟩
 ·intro L σ hc hi hd;have m14:L 14=false:=hc.neg (i:=10) (j:=14) rfl (by rfl) hi;refine .heq (H':=((q0_0,(.map (Am Value.string AB (BE p0.f3 t5 (p0.f4.length:Int)))))::(C5 n8 (p0.f4++([p1]:List (List Bool))))::(Z5 q0_2 p0.f5.f1)::(Z2 q0 p0.f0 p0.f1 p0.f2 q0_0 n8 (p0.f4++([p1]:List (List Bool))).length (p0.f5.f0.toList.map AK) q0_2 p0.f5.f1.length q0_3 p0.f5.f2.length)::(q0_3,(Z3 p0.f5.f2))::T0)) (by first|rfl|simp only[hi,m14,cond_true,cond_false]) ?_;refine .wK [62,66] ?_;refine .appendL (l:=p0.f5.f2) (m:=([t10]:List Int)) 4 67 rfl (by decide) rfl rfl rfl rfl rfl CS.fz Tryz.underlying40 Tryz.underlying40 Bb KP Fj rfl g14 (by decide) fun n13=>?_;have a10:A5 L 10 10=true:=rfl;have a14:A5 L 10 14=false:=m14;have u10:Cf σ 10 n13 10=n13:=rfl;exact .nE (d:=67) rfl ⟨(Cf σ 10 n13),(fun j hj=>match j,hj with |0,_=>rfl|1,_=>rfl|2,_=>rfl|3,_=>rfl|4,_=>rfl|5,_=>rfl|6,_=>rfl|7,_=>rfl|8,_=>rfl|9,_=>rfl|10,hj=>Bool.noConfusion (hj.symm.trans hi)|11,_=>rfl|12,_=>rfl|13,_=>rfl|14,_=>rfl|_+15,_=>rfl),(fun d' hd'=>⟨_,rfl,by cases hd';rfl⟩),.of_eq (B:=((q0_0,(.map (Am Value.string AB (BE p0.f3 t5 (p0.f4.length:Int)))))::(C5 n8 (p0.f4++([p1]:List (List Bool))))::(Z5 q0_2 p0.f5.f1)::(Z2 q0 p0.f0 p0.f1 p0.f2 q0_0 n8 (p0.f4++([p1]:List (List Bool))).length (p0.f5.f0.toList.map AK) q0_2 p0.f5.f1.length q0_3 p0.f5.f2.length)::(n13,(Z3 (p0.f5.f2++([t10]:List Int))))::T0)) (by simp only[a10,a14,u10,cond_true,cond_false]) (.refl _)⟩
 ·refine .calm (fun _ _=>rfl) fun L σ hc hi hd=>?_;have y10:L 10=true:=BC hd (i:=10) (by rfl);have m12:L 12=false:=hc.neg (i:=11) (j:=12) rfl (by rfl) hi;have m13:L 13=false:=hc.neg (i:=12) (j:=13) rfl (by rfl) m12;have m14:L 14=false:=hc.neg (i:=13) (j:=14) rfl (by rfl) m13;refine .heq (H':=((q0_0,(.map (Am Value.string AB (BE p0.f3 t5 (p0.f4.length:Int)))))::(C5 n8 (p0.f4++([p1]:List (List Bool))))::(Z5 q0_2 p0.f5.f1)::(Z2 q0 p0.f0 p0.f1 p0.f2 q0_0 n8 (p0.f4++([p1]:List (List Bool))).length (p0.f5.f0.toList.map AK) q0_2 p0.f5.f1.length q0_3 p0.f5.f2.length)::((σ 10),(Z3 (p0.f5.f2++([t10]:List Int))))::T0)) (by first|rfl|simp only[y10,m14,cond_true,cond_false]) ?_;refine .a 1 ?_;exact .nE (d:=68) rfl ⟨⟨68,_,rfl,rfl,rfl⟩,.of_eq (by first|rfl|simp only[y10,m14,cond_true,cond_false]) (.refl _)⟩
 ·refine .calm (fun _ _=>rfl) fun L σ hc hi hd=>?_;have y10:L 10=true:=BC hd (i:=10) (by rfl);have m13:L 13=false:=hc.neg (i:=12) (j:=13) rfl (by rfl) hi;have m14:L 14=false:=hc.neg (i:=13) (j:=14) rfl (by rfl) m13;refine .heq (H':=((q0_0,(.map (Am Value.string AB (BE p0.f3 t5 (p0.f4.length:Int)))))::(C5 n8 (p0.f4++([p1]:List (List Bool))))::(Z5 q0_2 p0.f5.f1)::(Z2 q0 p0.f0 p0.f1 p0.f2 q0_0 n8 (p0.f4++([p1]:List (List Bool))).length (p0.f5.f0.toList.map AK) q0_2 p0.f5.f1.length q0_3 p0.f5.f2.length)::((σ 10),(Z3 (p0.f5.f2++([t10]:List Int))))::T0)) (by first|rfl|simp only[y10,m14,cond_true,cond_false]) ?_;refine .a 1 ?_;exact .nE (d:=69) rfl ⟨⟨69,_,rfl,rfl,rfl⟩,.of_eq (by first|rfl|simp only[y10,m14,cond_true,cond_false]) (.refl _)⟩
 ·refine .calm (fun _ _=>rfl) fun L σ hc hi hd=>?_;have y10:L 10=true:=BC hd (i:=10) (by rfl);have m14:L 14=false:=hc.neg (i:=13) (j:=14) rfl (by rfl) hi;refine .heq (H':=((q0_0,(.map (Am Value.string AB (BE p0.f3 t5 (p0.f4.length:Int)))))::(C5 n8 (p0.f4++([p1]:List (List Bool))))::(Z5 q0_2 p0.f5.f1)::(Z2 q0 p0.f0 p0.f1 p0.f2 q0_0 n8 (p0.f4++([p1]:List (List Bool))).length (p0.f5.f0.toList.map AK) q0_2 p0.f5.f1.length q0_3 p0.f5.f2.length)::((σ 10),(Z3 (p0.f5.f2++([t10]:List Int))))::T0)) (by first|rfl|simp only[y10,m14,cond_true,cond_false]) ?_;refine .a 1 ?_;exact .nE (d:=70) rfl ⟨⟨70,_,rfl,rfl,rfl⟩,.of_eq (by first|rfl|simp only[y10,m14,cond_true,cond_false]) (.refl _)⟩
 ·intro L σ hc hi hd;have y10:L 10=true:=BC hd (i:=10) (by rfl);refine .heq (H':=((q0_0,(.map (Am Value.string AB (BE p0.f3 t5 (p0.f4.length:Int)))))::(C5 n8 (p0.f4++([p1]:List (List Bool))))::(Z5 q0_2 p0.f5.f1)::(Z2 q0 p0.f0 p0.f1 p0.f2 q0_0 n8 (p0.f4++([p1]:List (List Bool))).length (p0.f5.f0.toList.map AK) q0_2 p0.f5.f1.length q0_3 p0.f5.f2.length)::((σ 10),(Z3 (p0.f5.f2++([t10]:List Int))))::T0)) (by first|rfl|simp only[hi,y10,cond_true,cond_false]) ?_;refine .wK [67,70] ?_;refine .store 3 rfl rfl rfl rfl rfl rfl (.cast (.fldS (.fldS (.fldS (.fldS (.fldS (.fld0 (.fldS (.fldS (.fld0 .here))))))))) rfl) rfl rfl HI rfl ?_;have a10:A5 L 14 10=true:=y10;have a14:A5 L 14 14=true:=rfl;exact .n0 ⟨σ,(fun _ _=>rfl),(fun d' hd'=>by cases hd'),.of_eq (B:=((q0_0,(.map (Am Value.string AB (BE p0.f3 t5 (p0.f4.length:Int)))))::(C5 n8 (p0.f4++([p1]:List (List Bool))))::(Z5 q0_2 p0.f5.f1)::(Z2 q0 p0.f0 p0.f1 p0.f2 q0_0 n8 (p0.f4++([p1]:List (List Bool))).length (p0.f5.f0.toList.map AK) q0_2 p0.f5.f1.length (σ 10) (p0.f5.f2++([t10]:List Int)).length)::((σ 10),(Z3 (p0.f5.f2++([t10]:List Int))))::T0)) (by simp only[a10,a14,cond_true,cond_false]) (.refl _)⟩
 generalize σ 10=n13;refine .nH [0] (H':=((Z2 q0 p0.f0 p0.f1 p0.f2 q0_0 n8 (p0.f4++([p1]:List (List Bool))).length (p0.f5.f0.toList.map AK) q0_2 p0.f5.f1.length n13 (p0.f5.f2++([t10]:List Int)).length)::(q0_0,(.map (Am Value.string AB (BE p0.f3 t5 (p0.f4.length:Int)))))::(C5 n8 (p0.f4++([p1]:List (List Bool))))::(Z5 q0_2 p0.f5.f1)::(n13,(Z3 (p0.f5.f2++([t10]:List Int))))::T0)) (.cons 3 rfl (.cons 0 rfl (.cons 0 rfl (.cons 0 rfl (.cons 0 rfl (.refl _)))))) ?_;refine .a 8 ?_;obtain⟨x15,ex15,h⟩:=ob h;refine .c (.assign rfl (congrArg (fun x=>some (AB x)) (Option.some.inj ex15))) ?_;refine .nK [4] ?_;refine .rK [4] ?_;have hr:=Option.some.inj h;subst hr;exact⟨[(AB x15)],⟨rfl,rfl,trivial⟩,q0_0,n8,q0_2,n13,rfl,(.cons 0 rfl (.cons 0 rfl (.cons 0 rfl (.cons 0 rfl (.cons 0 rfl (.refl _))))))⟩
end Go.Avl.T8
namespace Go.Avl.T8
open Go Go.RowKit Go.Proofs Go.Avl
set_option linter.unusedVariables false
set_option maxRecDepth 100000
set_option maxHeartbeats 4000000
attribute [local irreducible] AW AO AQ AY Aq AH
def Mj (k:Nat) (x7:(List Bool)):Option (List Bool):=
 some (x7)
def Hx (k:Nat) (rec10:((List Bool)→Int→Option (List Bool))) (x9:Int) (x13:(List Bool)):Option (List Bool):=
 rec10 x13 (AG (x9+(1:Int)))
def ES (k:Nat) (p0:Ar) (p1:(List Bool)) (p2:Int):Nat→(List Bool)→Int→Option (List Bool)
 | 0,_,_=>none
 | j+1,x8,x9=>
   if x9<(p0.f1.length:Int)then if 0≤x9∧x9<(p0.f1.length:Int)then Option.bind (α:=Bool) (if(!((AA p0.f1 x9).f3))=true then if((AA p0.f1 x9).f0)<(p1.length:Int)then if 0≤((AA p0.f1 x9).f0)∧((AA p0.f1 x9).f0)<(p1.length:Int)then if(AA p1 ((AA p0.f1 x9).f0))=true then(YE k ((AA p0.f1 x9).f2) p2).bind fun t22=>
   some (t22)
   else some (false)
   else none
   else some (false)
   else some (false)) fun b16=>
   if b16=true then if 0≤((AA p0.f1 x9).f1)∧((AA p0.f1 x9).f1)<(x8.length:Int)then Hx k (ES k p0 p1 p2 j) x9 (AU x8 ((AA p0.f1 x9).f1) true)
   else none
   else Hx k (ES k p0 p1 p2 j) x9 x8
   else none
   else Mj k x8
def aE (k:Nat) (p0:Ar) (p1:(List Bool)) (p2:Int):Option (List Bool):=
 if 0≤p0.f0∧p0.f0*(1:Int)≤140737488355328∧p0.f0≤9223372036854775807 then ES k p0 p1 p2 k (List.replicate p0.f0.toNat false) (0:Int)
 else none
theorem SE {k:Nat} {p0:Ar} {p1:(List Bool)} {p2:Int} {r:(List Bool)} (h:aE k p0 p1 p2=some r):AY Tryz.prog 71 [(BK p0),(.fz 1 (p1.map AD)),(AK p2)] (G7 r):=by
 rw[aE.eq_1]at h;refine AY.intro (res:=[.tmp 6]) Tryz.func71 rfl rfl rfl (Nat.le_of_ble_eq_true rfl) ?_;refine .sr ?_;refine .box rfl 3 rfl (by decide) rfl rfl rfl fun n4=>?_;refine .a 6 ?_;obtain⟨g6,h⟩:=AC h;refine .makeL (f:=AD) false rfl 12 rfl (by decide) rfl rfl rfl Tryz.underlying95 Bw KI G3 D9 rfl g6 fun n5=>?_;refine .a 1 ?_;refine .nS [1,2,3,7] [1,0] ?_;refine .seq_mid (fun ρ H=>∃ (x7:(List Bool)),ρ=[(7,(.own n5 0 x7.length))]∧H=[(Z9 n5 x7)]∧Mj k x7=some r) ?_ ?_
 ·refine .a 6 ?_;refine .nS [1,2,7,14,15,16] [1] ?_;refine .a 1 ?_;refine .wK [1,2,7,14,15,16] ?_;refine .loop (fun kq ρ H=>∃ (x8:(List Bool)) (x9:Int),ρ=[(1,(.fz 1 (p1.map AD))),(2,(AK p2)),(7,(.own n5 0 x8.length)),(14,(.fz 7 (p0.f1.map BD))),(15,(AB (p0.f1.length:Int))),(16,(AB x9))]∧H=[(Z9 n5 x8)]∧ES k p0 p1 p2 kq x8 x9=some r) k ⟨(List.replicate p0.f0.toNat false),(0:Int),rfl,rfl,h⟩ ?_;rintro kq11 _ _ ⟨x8,x9,rfl,rfl,h⟩
  cases kq11 with
  | zero=>rw[ES.eq_1]at h;cases h
  | succ kq11=>
  rw[ES.eq_2]at h;generalize hrec10:ES k p0 p1 p2 kq11=rec10 at h;refine .a 5 ?_;rcases oi h with⟨c12,h⟩|⟨c12,h⟩
  ·refine .a 1 ?_;refine .sK [1,2,7,14,15,16] ?_;refine .seq_mid (fun ρ H=>∃ (x13:(List Bool)),ρ=[(1,(.fz 1 (p1.map AD))),(2,(AK p2)),(7,(.own n5 0 x13.length)),(14,(.fz 7 (p0.f1.map BD))),(15,(AB (p0.f1.length:Int))),(16,(AB x9))]∧H=[(Z9 n5 x13)]∧Hx k rec10 x9 x13=some r) ?_ ?_
   ·refine .a 3 ?_;obtain⟨g14,h⟩:=AC h;refine .a 2 ?_;refine .alloc rfl 9 rfl (by decide) rfl DP DH fun n15=>?_;refine .store 0 rfl rfl rfl rfl rfl rfl (.cast .here rfl) rfl rfl EG rfl ?_;refine .nS [1,2,7,9,14,15,16] [1,0] ?_;refine .seq ?_;obtain⟨b16,q17,h⟩:=ob h;refine .regM [(1,(.fz 1 (p1.map AD))),(2,(AK p2)),(7,(.own n5 0 x8.length)),(9,(.ptr n15 0)),(14,(.fz 7 (p0.f1.map BD))),(15,(AB (p0.f1.length:Int))),(16,(AB x9)),(42,(AD b16))] [(Z9 n5 x8),(n15,(.mem (BD (AA p0.f1 x9))))] ?_ ?_
    ·refine .a 4 ?_;rcases oi q17 with⟨c18,q17⟩|⟨c18,q17⟩
     ·refine .a 7 ?_;rcases oi q17 with⟨c19,q17⟩|⟨c19,q17⟩
      ·refine .a 3 ?_;obtain⟨g20,q17⟩:=AC q17;refine .a 4 ?_;rcases oi q17 with⟨c21,q17⟩|⟨c21,q17⟩
       ·refine .a 3 ?_;obtain⟨t22,et22,q17⟩:=ob q17;refine .callG 17 true 37 [(.ar 1 (((AA p0.f1 x9).f2).toList.map Ab)),(AK p2)] (AD t22) 41 rfl (by decide) aR rfl rfl (bD c21) rfl rfl ⟨rfl,rfl,rfl,rfl,trivial⟩ (N3 et22) ?_;refine .a 1 ?_;cases q17;refine .nilE ⟨rfl,rfl⟩ ?_ ?_
        ·exact⟨rfl,rfl,rfl,rfl,rfl,rfl,rfl,rfl,trivial⟩
        exact(.refl _)
       refine .a 5 ?_;cases q17;refine .nilE ⟨rfl,rfl⟩ ?_ ?_
       ·exact⟨rfl,rfl,rfl,rfl,rfl,rfl,rfl,rfl,trivial⟩
       exact(.refl _)
      refine .a 12 ?_;cases q17;refine .nilE ⟨rfl,rfl⟩ ?_ ?_
      ·exact⟨rfl,rfl,rfl,rfl,rfl,rfl,rfl,rfl,trivial⟩
      exact(.refl _)
     refine .a 19 ?_;cases q17;refine .nilE ⟨rfl,rfl⟩ ?_ ?_
     ·exact⟨rfl,rfl,rfl,rfl,rfl,rfl,rfl,rfl,trivial⟩
     exact(.refl _)
    rcases oi h with⟨c23,h⟩|⟨c23,h⟩
    ·refine .a 5 ?_;obtain⟨g24,h⟩:=AC h;refine .a 1 ?_;refine .store 0 rfl rfl rfl rfl rfl rfl (.cast (.lidx ((AA p0.f1 x9).f1) true g24.1 g24.2 .here) (by omega)) rfl rfl Bw rfl ?_;refine .coe 7 (y':=(BL n5 (AU x8 ((AA p0.f1 x9).f1) true).length)) rfl (fun _ _ h=>Ad h) ?_;refine .coe 43 (y':=(BL n5 (AU x8 ((AA p0.f1 x9).f1) true).length)) rfl (fun _ _ h=>Ad h) ?_;refine .nS [1,2,7,14,15,16] [0] ?_;exact⟨(AU x8 ((AA p0.f1 x9).f1) true),rfl,rfl,h⟩
    refine .a 1 ?_;refine .sH [1,2,7,14,15,16] (H':=[(Z9 n5 x8)]) (.cons 0 rfl (.nil _)) ?_;exact⟨x8,rfl,rfl,h⟩
   rintro _ _ ⟨x13,rfl,rfl,h⟩;rw[Hx.eq_1]at h;refine .a 3 ?_;refine .nK [1,2,7,14,15,16] ?_;exact⟨kq11,Nat.lt_succ_self _,x13,(AG (x9+(1:Int))),rfl,rfl,by rw[hrec10];exact h⟩
  refine .a 1 ?_;refine .eK [7] ?_;exact⟨x8,rfl,rfl,h⟩
 rintro _ _ ⟨x7,rfl,rfl,h⟩;rw[Mj.eq_1]at h;refine .a 4 ?_;refine .nK [6] ?_;refine .freezeS 0 [(6,(.fz 1 (x7.map AD)))] rfl ⟨Aj rfl,trivial⟩ ?_;refine .rK [6] ?_;have hr:=Option.some.inj h;subst hr;exact⟨[(.fz 1 (x7.map AD))],⟨rfl,rfl,trivial⟩,rfl⟩
end Go.Avl.T8
