/- Parts: T8f20, T8f4. -/
import Derived.Test.YtpkgpmmcbpfenaaGreatAF1
import Derived.Test.YtpkgpmmcbpfenaaGreatAF8
import Derived.Test.YtpkgpmmcbpfenaaGreatAF6
namespace Go.Avl.T8
open Go Go.RowKit Go.Proofs Go.Avl
set_option linter.unusedVariables false
set_option maxRecDepth 100000
set_option maxHeartbeats 4000000
attribute [local irreducible] AW AO AQ AY Aq AH
def PU (k:Nat):Option Bool:=
 some (true)
def Lg (k:Nat) (rec5:(Int→Option Bool)) (x4:Int):Option Bool:=
 rec5 (AG (x4+(1:Int)))
def MB (k:Nat) (rec9:(Int→Option Bool)) (x8:Int):Option Bool:=
 rec9 (AG (x8+(1:Int)))
def Lm (k:Nat) (rec9:(Int→Option Bool)) (x8:Int) (b12:Bool):Option Bool:=
 if b12=true then some (false)
 else MB k rec9 x8
def FG (k:Nat) (rec9:(Int→Option Bool)) (p0:AI) (x4:Int) (x8:Int):Nat→Bool→Int→Option Bool
 | 0,_,_=>none
 | j+1,b14,x15=>
   if x15<(p0.f1.length:Int)then Option.bind (α:=Bool) (if b14=true then(Wq k p0 x15 x4).bind fun t22=>
   (Wq k p0 x15 x8).bind fun t23=>
   some (decide (t22=t23))
   else some (false)) fun b19=>
   (FG k rec9 p0 x4 x8 j) b19 (AG (x15+(1:Int)))
   else Lm k rec9 x8 b14
def Ed (k:Nat) (rec5:(Int→Option Bool)) (p0:AI) (x4:Int):Nat→Int→Option Bool
 | 0,_=>none
 | j+1,x8=>
   if x8<x4 then FG k (Ed k rec5 p0 x4 j) p0 x4 x8 k true (0:Int)
   else Lg k rec5 x4
def Eh (k:Nat) (p0:AI) (x3:Int):Nat→Int→Option Bool
 | 0,_=>none
 | j+1,x4=>
   if x4<x3 then Ed k (Eh k p0 x3 j) p0 x4 k (0:Int)
   else PU k
def H3 (k:Nat) (p0:AI) (x3:Int):Option Bool:=
 Eh k p0 x3 k (0:Int)
def JZ (k:Nat) (rec26:(Int→Int→Option Bool)) (x25:Int) (x29:Int):Option Bool:=
 rec26 x29 (AG (x25+(1:Int)))
def En (k:Nat) (p0:AI):Nat→Int→Int→Option Bool
 | 0,_,_=>none
 | j+1,x24,x25=>
   if x25<(256:Int)then if 0≤x25∧x25<(256:Int)then if x24<(AG (AZ p0.f0 x25))then some (false)
   else if 0≤x25∧x25<(256:Int)then if(AG (AZ p0.f0 x25))=x24 then JZ k (En k p0 j) x25 (AG (x24+(1:Int)))
   else JZ k (En k p0 j) x25 x24
   else none
   else none
   else H3 k p0 x24
def aq (k:Nat) (p0:AI):Option Bool:=
 En k p0 k (0:Int) (0:Int)
theorem UD {k:Nat} {p0:AI} {r:Bool} (h:aq k p0=some r):AY Tryz.prog 20 [(Ak p0)] (AD r):=by
 rw[aq.eq_1]at h;refine AY.intro (res:=[.tmp 2]) Tryz.func20 rfl rfl rfl (Nat.le_of_ble_eq_true rfl) ?_;refine .sr ?_;refine .box rfl 1 rfl (by decide) rfl rfl rfl fun n2=>?_;refine .a 5 ?_;refine .nK [1,3] ?_;refine .seq_mid (fun ρ H=>∃ (x3:Int),ρ=[(1,(.ptr n2 0)),(3,(AB x3))]∧H=[(n2,(.mem (Ak p0)))]∧H3 k p0 x3=some r) ?_ ?_
 ·refine .a 5 ?_;refine .wK [1,3,4] ?_;refine .loop (fun kq ρ H=>∃ (x24:Int) (x25:Int),ρ=[(1,(.ptr n2 0)),(3,(AB x24)),(4,(AB x25))]∧H=[(n2,(.mem (Ak p0)))]∧En k p0 kq x24 x25=some r) k ⟨(0:Int),(0:Int),rfl,rfl,h⟩ ?_;rintro kq27 _ _ ⟨x24,x25,rfl,rfl,h⟩
  cases kq27 with
  | zero=>rw[En.eq_1]at h;cases h
  | succ kq27=>
  rw[En.eq_2]at h;generalize hrec26:En k p0 kq27=rec26 at h;refine .a 6 ?_;rcases oi h with⟨c28,h⟩|⟨c28,h⟩
  ·refine .a 1 ?_;refine .sK [1,3,4] ?_;refine .seq_mid (fun ρ H=>∃ (x29:Int),ρ=[(1,(.ptr n2 0)),(3,(AB x29)),(4,(AB x25))]∧H=[(n2,(.mem (Ak p0)))]∧JZ k rec26 x25 x29=some r) ?_ ?_
   ·refine .a 6 ?_;obtain⟨g30,h⟩:=AC h;refine .c (.idxP rfl rfl rfl g30 Tryz.underlying38 Ew) ?_;refine .c (.load 0 rfl rfl rfl (.cast (.fld0 (.vidx x25 g30.1 g30.2 .here)) (by omega)) Ol Ew) ?_;refine .c (x:=AB (AG (AZ p0.f0 x25))) (.conv rfl rfl Tryz.underlying5 Tryz.underlying3) ?_;refine .mv rfl rfl ?_;refine .c (x:=AD (decide (x24<(AG (AZ p0.f0 x25))))) (.int rfl rfl rfl rfl) ?_;refine .nK [1,3,4,19] ?_;rcases oi h with⟨c31,h⟩|⟨c31,h⟩
    ·refine .a 4 ?_;refine .nS [2] [] ?_;refine .rK [2] ?_;have hr:=Option.some.inj h;subst hr;exact⟨[(AD false)],⟨rfl,rfl,trivial⟩,rfl⟩
    refine .a 6 ?_;obtain⟨g32,h⟩:=AC h;refine .c (.idxP rfl rfl rfl g32 Tryz.underlying38 Ew) ?_;refine .c (.load 0 rfl rfl rfl (.cast (.fld0 (.vidx x25 g32.1 g32.2 .here)) (by omega)) Ol Ew) ?_;refine .c (x:=AB (AG (AZ p0.f0 x25))) (.conv rfl rfl Tryz.underlying5 Tryz.underlying3) ?_;refine .mv rfl rfl ?_;refine .c (x:=AD (decide ((AG (AZ p0.f0 x25))=x24))) (.int rfl rfl rfl rfl) ?_;refine .nK [1,3,4,26] ?_;rcases oi h with⟨c33,h⟩|⟨c33,h⟩
    ·refine .a 5 ?_;refine .nK [1,3,4] ?_;exact⟨(AG (x24+(1:Int))),rfl,rfl,h⟩
    refine .a 1 ?_;refine .sK [1,3,4] ?_;exact⟨x24,rfl,rfl,h⟩
   rintro _ _ ⟨x29,rfl,rfl,h⟩;rw[JZ.eq_1]at h;refine .a 4 ?_;refine .nK [1,3,4] ?_;exact⟨kq27,Nat.lt_succ_self _,x29,(AG (x25+(1:Int))),rfl,rfl,by rw[hrec26];exact h⟩
  refine .a 1 ?_;refine .eK [1,3] ?_;exact⟨x24,rfl,rfl,h⟩
 rintro _ _ ⟨x3,rfl,rfl,h⟩;rw[H3.eq_1]at h;refine .seq_mid (fun ρ H=>ρ=[]∧H=[]∧PU k=some r) ?_ ?_
 ·refine .a 5 ?_;refine .wK [1,3,5] ?_;refine .loop (fun kq ρ H=>∃ (x4:Int),ρ=[(1,(.ptr n2 0)),(3,(AB x3)),(5,(AB x4))]∧H=[(n2,(.mem (Ak p0)))]∧Eh k p0 x3 kq x4=some r) k ⟨(0:Int),rfl,rfl,h⟩ ?_;rintro kq6 _ _ ⟨x4,rfl,rfl,h⟩
  cases kq6 with
  | zero=>rw[Eh.eq_1]at h;cases h
  | succ kq6=>
  rw[Eh.eq_2]at h;generalize hrec5:Eh k p0 x3 kq6=rec5 at h;refine .a 7 ?_;rcases oi h with⟨c7,h⟩|⟨c7,h⟩
  ·refine .a 1 ?_;refine .sK [1,3,5] ?_;refine .seq_mid (fun ρ H=>ρ=[(1,(.ptr n2 0)),(3,(AB x3)),(5,(AB x4))]∧H=[(n2,(.mem (Ak p0)))]∧Lg k rec5 x4=some r) ?_ ?_
   ·refine .a 6 ?_;refine .wK [1,3,5,6] ?_;refine .loop (fun kq ρ H=>∃ (x8:Int),ρ=[(1,(.ptr n2 0)),(3,(AB x3)),(5,(AB x4)),(6,(AB x8))]∧H=[(n2,(.mem (Ak p0)))]∧Ed k rec5 p0 x4 kq x8=some r) k ⟨(0:Int),rfl,rfl,h⟩ ?_;rintro kq10 _ _ ⟨x8,rfl,rfl,h⟩
    cases kq10 with
    | zero=>rw[Ed.eq_1]at h;cases h
    | succ kq10=>
    rw[Ed.eq_2]at h;generalize hrec9:Ed k rec5 p0 x4 kq10=rec9 at h;refine .a 7 ?_;rcases oi h with⟨c11,h⟩|⟨c11,h⟩
    ·refine .a 1 ?_;refine .sK [1,3,5,6] ?_;refine .seq_mid (fun ρ H=>ρ=[(1,(.ptr n2 0)),(3,(AB x3)),(5,(AB x4)),(6,(AB x8))]∧H=[(n2,(.mem (Ak p0)))]∧MB k rec9 x8=some r) ?_ ?_
     ·refine .a 4 ?_;refine .nK [1,3,5,6,7] ?_;refine .seq_mid (fun ρ H=>∃ (b12:Bool),ρ=[(1,(.ptr n2 0)),(3,(AB x3)),(5,(AB x4)),(6,(AB x8)),(7,(AD b12))]∧H=[(n2,(.mem (Ak p0)))]∧Lm k rec9 x8 b12=some r) ?_ ?_
      ·refine .a 5 ?_;refine .wK [1,3,5,6,7,8] ?_;refine .loop (fun kq ρ H=>∃ (b14:Bool) (x15:Int),ρ=[(1,(.ptr n2 0)),(3,(AB x3)),(5,(AB x4)),(6,(AB x8)),(7,(AD b14)),(8,(AB x15))]∧H=[(n2,(.mem (Ak p0)))]∧FG k rec9 p0 x4 x8 kq b14 x15=some r) k ⟨true,(0:Int),rfl,rfl,h⟩ ?_;rintro kq17 _ _ ⟨b14,x15,rfl,rfl,h⟩
       cases kq17 with
       | zero=>rw[FG.eq_1]at h;cases h
       | succ kq17=>
       rw[FG.eq_2]at h;generalize hrec16:FG k rec9 p0 x4 x8 kq17=rec16 at h;refine .a 9 ?_;rcases oi h with⟨c18,h⟩|⟨c18,h⟩
       ·refine .a 4 ?_;obtain⟨b19,q20,h⟩:=ob h;refine .regQM (by rfl) (by decide+kernel) [(1,(.ptr n2 0)),(3,(AB x3)),(5,(AB x4)),(6,(AB x8)),(7,(AD b19)),(8,(AB x15))] ?_ ?_
        ·refine .a 2 ?_;rcases oi q20 with⟨c21,q20⟩|⟨c21,q20⟩
         ·refine .a 3 ?_;obtain⟨t22,et22,q20⟩:=ob q20;refine .cG rfl rfl (bD c21) (.call (args:=[(Ak p0),(AB x15),(AB x4)]) rfl rfl V6 ⟨rfl,rfl,rfl,rfl,rfl,rfl,trivial⟩ rfl (HD et22)) ?_;refine .a 3 ?_;obtain⟨t23,et23,q20⟩:=ob q20;refine .cG rfl rfl (bD c21) (.call (args:=[(Ak p0),(AB x15),(AB x8)]) rfl rfl V6 ⟨rfl,rfl,rfl,rfl,rfl,rfl,trivial⟩ rfl (HD et23)) ?_;refine .a 3 ?_;cases q20;refine .nilE rfl ?_;exact⟨rfl,rfl,rfl,rfl,rfl,rfl,trivial⟩
         refine .a 11 ?_;cases q20;refine .nilE rfl ?_;exact⟨rfl,rfl,rfl,rfl,rfl,rfl,trivial⟩
        refine .a 4 ?_;refine .nK [1,3,5,6,7,8] ?_;exact⟨kq17,Nat.lt_succ_self _,b19,(AG (x15+(1:Int))),rfl,rfl,by rw[hrec16];exact h⟩
       refine .a 1 ?_;refine .eK [1,3,5,6,7] ?_;exact⟨b14,rfl,rfl,h⟩
      rintro _ _ ⟨b12,rfl,rfl,h⟩;rw[Lm.eq_1]at h;refine .a 4 ?_;rcases oi h with⟨c13,h⟩|⟨c13,h⟩
      ·refine .a 4 ?_;refine .nS [2] [] ?_;refine .rK [2] ?_;have hr:=Option.some.inj h;subst hr;exact⟨[(AD false)],⟨rfl,rfl,trivial⟩,rfl⟩
      refine .a 1 ?_;refine .sK [1,3,5,6] ?_;exact⟨rfl,rfl,h⟩
     rintro _ _ ⟨rfl,rfl,h⟩;rw[MB.eq_1]at h;refine .a 4 ?_;refine .nK [1,3,5,6] ?_;exact⟨kq10,Nat.lt_succ_self _,(AG (x8+(1:Int))),rfl,rfl,by rw[hrec9];exact h⟩
    refine .a 1 ?_;refine .eK [1,3,5] ?_;exact⟨rfl,rfl,h⟩
   rintro _ _ ⟨rfl,rfl,h⟩;rw[Lg.eq_1]at h;refine .a 4 ?_;refine .nK [1,3,5] ?_;exact⟨kq6,Nat.lt_succ_self _,(AG (x4+(1:Int))),rfl,rfl,by rw[hrec5];exact h⟩
  refine .a 1 ?_;refine .eH [] (H':=[]) (.nil _) ?_;exact⟨rfl,rfl,h⟩
 rintro _ _ ⟨rfl,rfl,h⟩;rw[PU.eq_1]at h;refine .a 3 ?_;refine .nK [2] ?_;refine .rK [2] ?_;have hr:=Option.some.inj h;subst hr;exact⟨[(AD true)],⟨rfl,rfl,trivial⟩,rfl⟩
def F4 (k:Nat) (p0:(List CN)) (p1:ByteArray):Option Bool:=
 (bA k).bind fun t3=>
 if(!t3)=true then some (false)
 else Option.bind (α:=Bool) ((Xx k p0).bind fun t7=>
 if(!t7)=true then some (true)
 else some (decide ((20:Int)<(p1.size:Int)))) fun b5=>
 if b5=true then some (true)
 else(ZZ k p0).bind fun t10=>
 (aW k p0).bind fun t12=>
 if t10.2=(6:Int)then some (decide ((t10.1.f1.length:Int)=(0:Int)))
 else if t12.2≠(0:Int)then Option.bind (α:=Bool) (if t10.2=t12.2 then some (decide ((t10.1.f1.length:Int)=(0:Int)))
 else some (false)) fun b15=>
 some (b15)
 else Option.bind (α:=Bool) (if t10.2≠(0:Int)then some (true)
 else(Yq k t10.1).bind fun t21=>
 some (!t21)) fun b18=>
 if b18=true then some (false)
 else(Yi k t10.1 (0:Int) p1).bind fun t23=>
 (WE k t10.1 t23).bind fun t24=>
 (aj k p0 p1).bind fun t25=>
 if t24≠t25 then some (false)
 else Option.bind (α:=Bool) ((Zz k t10.1).bind fun t29=>
 if(!t29)=true then some (true)
 else(Y0 k t10.1).bind fun t31=>
 if t31=true then(aq k t10.1).bind fun t33=>
 some (t33)
 else some (false)) fun b27=>
 some (b27)
theorem V7 {k:Nat} {p0:(List CN)} {p1:ByteArray} {r:Bool} (h:F4 k p0 p1=some r):AY Tryz.prog 4 [(.fz 3 (p0.map Es)),(AN p1)] (AD r):=by
 rw[F4.eq_1]at h;refine AY.intro (res:=[.tmp 4]) Tryz.func4 rfl rfl rfl (Nat.le_of_ble_eq_true rfl) ?_;refine .a 7 ?_;obtain⟨t3,et3,h⟩:=ob h;refine .callS [] (AD t3) 9 rfl (by decide) bG rfl rfl rfl trivial (T6 et3) ?_;refine .a 2 ?_;rcases oi h with⟨c4,h⟩|⟨c4,h⟩
 ·refine .a 4 ?_;refine .nK [4] ?_;refine .rK [4] ?_;have hr:=Option.some.inj h;subst hr;exact⟨[(AD false)],⟨rfl,rfl,trivial⟩,rfl⟩
 refine .a 4 ?_;obtain⟨b5,q6,h⟩:=ob h;refine .regM [(0,(.fz 3 (p0.map Es))),(1,(AN p1)),(18,(AD b5))] [] ?_ ?_
 ·refine .a 1 ?_;obtain⟨t7,et7,q6⟩:=ob q6;refine .callS [(.fz 3 (p0.map Es))] (AD t7) 12 rfl (by decide) cR rfl rfl rfl ⟨rfl,rfl,trivial⟩ (UA et7) ?_;refine .a 2 ?_;rcases oi q6 with⟨c8,q6⟩|⟨c8,q6⟩
  ·refine .a 4 ?_;cases q6;refine .nilE ⟨rfl,rfl⟩ ?_ ?_
   ·exact⟨rfl,rfl,rfl,trivial⟩
   exact(.refl _)
  refine .a 4 ?_;cases q6;refine .nilE ⟨rfl,rfl⟩ ?_ ?_
  ·exact⟨rfl,rfl,rfl,trivial⟩
  exact(.refl _)
 rcases oi h with⟨c9,h⟩|⟨c9,h⟩
 ·refine .a 4 ?_;refine .nK [4] ?_;refine .rK [4] ?_;have hr:=Option.some.inj h;subst hr;exact⟨[(AD true)],⟨rfl,rfl,trivial⟩,rfl⟩
 refine .a 5 ?_;obtain⟨t10,et10,h⟩:=ob h;refine .callS [(.fz 3 (p0.map Es))] (.tup [(Ak t10.1),(AB t10.2)]) 21 rfl (by decide) Zo rfl rfl rfl ⟨rfl,rfl,trivial⟩ (OC et10) ?_;refine .a 3 ?_;refine .alloc rfl 5 rfl (by decide) rfl CY BV fun n11=>?_;refine .store 0 rfl rfl rfl rfl rfl rfl (.cast .here rfl) rfl rfl BQ rfl ?_;refine .a 5 ?_;obtain⟨t12,et12,h⟩:=ob h;refine .callS [(.fz 3 (p0.map Es))] (.tup [(AB t12.1),(AB t12.2)]) 26 rfl (by decide) bu rfl rfl rfl ⟨rfl,rfl,trivial⟩ (Ui et12) ?_;refine .a 12 ?_;rcases oi h with⟨c13,h⟩|⟨c13,h⟩
 ·refine .a 8 ?_;refine .nS [4] [] ?_;refine .rK [4] ?_;cases h;exact⟨[(AD (decide ((t10.1.f1.length:Int)=(0:Int))))],⟨rfl,rfl,trivial⟩,rfl⟩
 refine .a 8 ?_;rcases oi h with⟨c14,h⟩|⟨c14,h⟩
 ·refine .a 2 ?_;obtain⟨b15,q16,h⟩:=ob h;refine .regM [(4,(AD b15))] [] ?_ ?_
  ·refine .a 4 ?_;rcases oi q16 with⟨c17,q16⟩|⟨c17,q16⟩
   ·refine .a 6 ?_;cases q16;refine .nilE ⟨rfl,rfl⟩ ?_ ?_
    ·exact⟨rfl,trivial⟩
    exact(.nil _)
   refine .a 6 ?_;cases q16;refine .nilE ⟨rfl,rfl⟩ ?_ ?_
   ·exact⟨rfl,trivial⟩
   exact(.nil _)
  refine .rK [4] ?_;have hr:=Option.some.inj h;subst hr;exact⟨[(AD b15)],⟨rfl,rfl,trivial⟩,rfl⟩
 refine .a 4 ?_;obtain⟨b18,q19,h⟩:=ob h;refine .regM [(0,(.fz 3 (p0.map Es))),(1,(AN p1)),(5,(.ptr n11 0)),(52,(AD b18))] [(n11,(.mem (Ak t10.1)))] ?_ ?_
 ·refine .a 3 ?_;rcases oi q19 with⟨c20,q19⟩|⟨c20,q19⟩
  ·refine .a 4 ?_;cases q19;refine .nilE ⟨rfl,rfl⟩ ?_ ?_
   ·exact⟨rfl,rfl,rfl,rfl,trivial⟩
   exact(.refl _)
  refine .a 1 ?_;obtain⟨t21,et21,q19⟩:=ob q19;refine .callG 2 false 48 [(Ak t10.1)] (AD t21) 50 rfl (by decide) cV rfl rfl (bD (decide_eq_false c20)) rfl rfl ⟨rfl,rfl,trivial⟩ (SG et21) ?_;refine .a 2 ?_;cases q19;refine .nilE ⟨rfl,rfl⟩ ?_ ?_
  ·exact⟨rfl,rfl,rfl,rfl,trivial⟩
  exact(.refl _)
 rcases oi h with⟨c22,h⟩|⟨c22,h⟩
 ·refine .a 4 ?_;refine .nS [4] [] ?_;refine .rK [4] ?_;have hr:=Option.some.inj h;subst hr;exact⟨[(AD false)],⟨rfl,rfl,trivial⟩,rfl⟩
 refine .a 4 ?_;refine .regQ (by rfl) (by decide+kernel) ?_;refine .a 3 ?_;obtain⟨t23,et23,h⟩:=ob h;refine .c (.call (args:=[(Ak t10.1),(AB (0:Int)),(AN p1)]) rfl rfl RX ⟨rfl,rfl,rfl,rfl,rfl,rfl,trivial⟩ rfl (E1 et23)) ?_;obtain⟨t24,et24,h⟩:=ob h;refine .c (.call (args:=[(Ak t10.1),(AB t23)]) rfl rfl Nv ⟨rfl,rfl,rfl,rfl,trivial⟩ rfl (DA et24)) ?_;refine .a 2 ?_;obtain⟨t25,et25,h⟩:=ob h;refine .c (.call (args:=[(.fz 3 (p0.map Es)),(AN p1)]) rfl rfl bK ⟨rfl,rfl,rfl,rfl,trivial⟩ rfl (Um et25)) ?_;refine .a 2 ?_;rcases oi h with⟨c26,h⟩|⟨c26,h⟩
 ·refine .a 4 ?_;refine .nS [4] [] ?_;refine .rK [4] ?_;have hr:=Option.some.inj h;subst hr;exact⟨[(AD false)],⟨rfl,rfl,trivial⟩,rfl⟩
 refine .a 3 ?_;obtain⟨b27,q28,h⟩:=ob h;refine .regM [(4,(AD b27))] [] ?_ ?_
 ·refine .a 1 ?_;obtain⟨t29,et29,q28⟩:=ob q28;refine .callS [(Ak t10.1)] (AD t29) 63 rfl (by decide) bE rfl rfl rfl ⟨rfl,rfl,trivial⟩ (Up et29) ?_;refine .a 2 ?_;rcases oi q28 with⟨c30,q28⟩|⟨c30,q28⟩
  ·refine .a 8 ?_;cases q28;refine .nilE ⟨rfl,rfl⟩ ?_ ?_
   ·exact⟨rfl,trivial⟩
   exact(.nil _)
  refine .a 1 ?_;obtain⟨t31,et31,q28⟩:=ob q28;refine .callG 3 false 65 [(Ak t10.1)] (AD t31) 67 rfl (by decide) cg rfl rfl (bD (eq_false_of_ne_true c30)) rfl rfl ⟨rfl,rfl,trivial⟩ (Sw et31) ?_;refine .a 1 ?_;rcases oi q28 with⟨c32,q28⟩|⟨c32,q28⟩
  ·refine .a 1 ?_;obtain⟨t33,et33,q28⟩:=ob q28;refine .callG 6 true 68 [(Ak t10.1)] (AD t33) 70 rfl (by decide) bX rfl rfl (bD c32) rfl rfl ⟨rfl,rfl,trivial⟩ (UD et33) ?_;refine .a 3 ?_;cases q28;refine .nilE ⟨rfl,rfl⟩ ?_ ?_
   ·exact⟨rfl,trivial⟩
   exact(.nil _)
  refine .a 5 ?_;cases q28;refine .nilE ⟨rfl,rfl⟩ ?_ ?_
  ·exact⟨rfl,trivial⟩
  exact(.nil _)
 refine .rK [4] ?_;have hr:=Option.some.inj h;subst hr;exact⟨[(AD b27)],⟨rfl,rfl,trivial⟩,rfl⟩
end Go.Avl.T8
