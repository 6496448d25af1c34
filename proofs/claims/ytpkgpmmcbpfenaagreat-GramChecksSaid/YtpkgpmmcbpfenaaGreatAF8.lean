/- Parts: TCf3. -/
import Derived.Test.YtpkgpmmcbpfenaaGreatAF1
import Derived.Test.YtpkgpmmcbpfenaaGreatAF5
import Derived.Test.YtpkgpmmcbpfenaaGreatAF7
namespace Go.Avl.TC
open Go Go.RowKit Go.Proofs Go.Avl
set_option linter.unusedVariables false
set_option maxRecDepth 100000
set_option maxHeartbeats 4000000
attribute [local irreducible] AW AO AQ AM Al AG
def F3 (k:Nat) (p0:A6):Option Bool:=
 (F5 k).bind fun t3=>
 if(!t3)=true then some (false)
 else(F6 k p0).bind fun t5=>
 if(!t5)=true then some (true)
 else(F7 k p0).bind fun t7=>
 Option.bind (α:=Bool) (if t7.f0=(6:Int)then some (decide (t7.f1=(1:Int)))
 else some (false)) fun b9=>
 if b9=true then some (true)
 else(F8 k p0).bind fun t13=>
 Option.bind (α:=Bool) (if t7.f0=t13.1 then if t7.f1=t13.2.1 then if t7.f2=t13.2.2 then(F9 k p0 p0).bind fun t19=>
 some (t19)
 else some (false)
 else some (false)
 else some (false)) fun b14=>
 some (b14)
theorem PT {k:Nat} {p0:A6} {r:Bool} (h:F3 k p0=some r):AM Tryz.prog 3 [(BA p0)] (AB r):=by
 rw[F3.eq_1]at h;refine AM.intro (res:=[.tmp 2]) Tryz.func3 rfl rfl rfl (Nat.le_of_ble_eq_true rfl) ?_;refine .sr ?_;refine .box rfl 1 rfl (by decide) rfl rfl rfl fun n2=>?_;refine .a 5 ?_;obtain⟨t3,et3,h⟩:=ob h;refine .callS [] (AB t3) 7 rfl (by decide) WI rfl rfl rfl trivial (Pg et3) ?_;refine .a 2 ?_;rcases oi h with⟨c4,h⟩|⟨c4,h⟩
 ·refine .a 4 ?_;refine .nS [2] [] ?_;refine .rK [2] ?_;have hr:=Option.some.inj h;subst hr;exact⟨[(AB false)],⟨rfl,rfl,trivial⟩,rfl⟩
 refine .a 6 ?_;obtain⟨t5,et5,h⟩:=ob h;refine .callS [(BA p0)] (AB t5) 10 rfl (by decide) WJ rfl rfl rfl ⟨rfl,rfl,trivial⟩ (Pu et5) ?_;refine .a 2 ?_;rcases oi h with⟨c6,h⟩|⟨c6,h⟩
 ·refine .a 4 ?_;refine .nS [2] [] ?_;refine .rK [2] ?_;have hr:=Option.some.inj h;subst hr;exact⟨[(AB true)],⟨rfl,rfl,trivial⟩,rfl⟩
 refine .a 5 ?_;obtain⟨t7,et7,h⟩:=ob h;refine .callS [(BA p0)] (GW t7) 13 rfl (by decide) WB rfl rfl rfl ⟨rfl,rfl,trivial⟩ (MD et7) ?_;refine .alloc rfl 3 rfl (by decide) rfl Du B6 fun n8=>?_;refine .store 0 rfl rfl rfl rfl rfl rfl (.cast .here rfl) rfl rfl Bj rfl ?_;refine .nS [1,3] [1,0] ?_;refine .a 2 ?_;obtain⟨b9,q10,h⟩:=ob h;refine .regM [(1,(.ptr n2 0)),(3,(.ptr n8 0)),(21,(AB b9))] [(n2,(.mem (BA p0))),(n8,(.mem (GW t7)))] ?_ ?_
 ·refine .a 4 ?_;rcases oi q10 with⟨c11,q10⟩|⟨c11,q10⟩
  ·refine .a 4 ?_;cases q10;refine .nilE ⟨rfl,rfl⟩ ?_ ?_
   ·exact⟨rfl,rfl,rfl,trivial⟩
   exact(.refl _)
  refine .a 4 ?_;cases q10;refine .nilE ⟨rfl,rfl⟩ ?_ ?_
  ·exact⟨rfl,rfl,rfl,trivial⟩
  exact(.refl _)
 rcases oi h with⟨c12,h⟩|⟨c12,h⟩
 ·refine .a 4 ?_;refine .nS [2] [] ?_;refine .rK [2] ?_;have hr:=Option.some.inj h;subst hr;exact⟨[(AB true)],⟨rfl,rfl,trivial⟩,rfl⟩
 refine .a 5 ?_;obtain⟨t13,et13,h⟩:=ob h;refine .callS [(BA p0)] (.tup [(AA t13.1),(AA t13.2.1),(AA t13.2.2)]) 24 rfl (by decide) WO rfl rfl rfl ⟨rfl,rfl,trivial⟩ (Pv et13) ?_;refine .a 9 ?_;obtain⟨b14,q15,h⟩:=ob h;refine .regM [(2,(AB b14))] [] ?_ ?_
 ·refine .a 5 ?_;rcases oi q15 with⟨c16,q15⟩|⟨c16,q15⟩
  ·refine .a 6 ?_;rcases oi q15 with⟨c17,q15⟩|⟨c17,q15⟩
   ·refine .a 6 ?_;rcases oi q15 with⟨c18,q15⟩|⟨c18,q15⟩
    ·refine .a 2 ?_;obtain⟨t19,et19,q15⟩:=ob q15;refine .callG 16 true 44 [(BA p0),(BA p0)] (AB t19) 47 rfl (by decide) WR rfl rfl (bD (decide_eq_true c18)) rfl rfl ⟨rfl,rfl,rfl,rfl,trivial⟩ (Pt et19) ?_;refine .a 2 ?_;cases q15;refine .nilE ⟨rfl,rfl⟩ ?_ ?_
     ·exact⟨rfl,trivial⟩
     exact(.nil _)
    refine .a 5 ?_;cases q15;refine .nilE ⟨rfl,rfl⟩ ?_ ?_
    ·exact⟨rfl,trivial⟩
    exact(.nil _)
   refine .a 11 ?_;cases q15;refine .nilE ⟨rfl,rfl⟩ ?_ ?_
   ·exact⟨rfl,trivial⟩
   exact(.nil _)
  refine .a 17 ?_;cases q15;refine .nilE ⟨rfl,rfl⟩ ?_ ?_
  ·exact⟨rfl,trivial⟩
  exact(.nil _)
 refine .rK [2] ?_;have hr:=Option.some.inj h;subst hr;exact⟨[(AB b14)],⟨rfl,rfl,trivial⟩,rfl⟩
end Go.Avl.TC
