/- Parts: T7f46, T7f47, T7f71, T7f72, T7f49, T7f48, T7f51, T7f50, T7f12, T7f53, T7f52, T7f13, T7f14, T7f15, T7f17, T7f19, T7f20, T7f23, T7f24, T7f25. -/
import Derived.Test.YtpkgpmmcbpfenaaAF1
import Derived.Test.YtpkgpmmcbpfenaaAF7
/- slices.Equal[[]bosket/api.Rule,bosket/api.Rule]; printed by avmain.py. -/
namespace Go.Avl.T7
open Go Go.RowKit Go.Proofs Go.Avl
set_option linter.unusedVariables false
set_option maxRecDepth 100000
set_option maxHeartbeats 4000000
attribute [local irreducible] AW AO AQ Spec SpecH Calm

end Go.Avl.T7
/- slices.Equal[[]string,string]; printed by avmain.py. -/
namespace Go.Avl.T7
open Go Go.RowKit Go.Proofs Go.Avl
set_option linter.unusedVariables false
set_option maxRecDepth 100000
set_option maxHeartbeats 4000000
attribute [local irreducible] AW AO AQ Spec SpecH Calm

end Go.Avl.T7
/- slices.Equal[[]bosket/api.Sym,bosket/api.Sym]; printed by avmain.py. -/
namespace Go.Avl.T7
open Go Go.RowKit Go.Proofs Go.Avl
set_option linter.unusedVariables false
set_option maxRecDepth 100000
set_option maxHeartbeats 4000000
attribute [local irreducible] AW AO AQ Spec SpecH Calm

end Go.Avl.T7
/- slices.Equal[[]int,int]; printed by avmain.py. -/
namespace Go.Avl.T7
open Go Go.RowKit Go.Proofs Go.Avl
set_option linter.unusedVariables false
set_option maxRecDepth 100000
set_option maxHeartbeats 4000000
attribute [local irreducible] AW AO AQ Spec SpecH Calm

end Go.Avl.T7
/- bosket/gram.sameProd; printed by avmain.py. -/
namespace Go.Avl.T7
open Go Go.RowKit Go.Proofs Go.Avl
set_option linter.unusedVariables false
set_option maxRecDepth 100000
set_option maxHeartbeats 4000000
attribute [local irreducible] AW AO AQ Spec SpecH Calm

end Go.Avl.T7
/- slices.EqualFunc[[]bosket/api.Prod,[]bosket/api.Prod,bosket/api.Prod,bosket/api.Prod]; printed by avmain.py. -/
namespace Go.Avl.T7
open Go Go.RowKit Go.Proofs Go.Avl
set_option linter.unusedVariables false
set_option maxRecDepth 100000
set_option maxHeartbeats 4000000
attribute [local irreducible] AW AO AQ Spec SpecH Calm

end Go.Avl.T7
/- bosket/gram.sameLevel; printed by avmain.py. -/
namespace Go.Avl.T7
open Go Go.RowKit Go.Proofs Go.Avl
set_option linter.unusedVariables false
set_option maxRecDepth 100000
set_option maxHeartbeats 4000000
attribute [local irreducible] AW AO AQ Spec SpecH Calm

end Go.Avl.T7
/- slices.EqualFunc[[]bosket/api.Level,[]bosket/api.Level,bosket/api.Level,bosket/api.Level]; printed by avmain.py. -/
namespace Go.Avl.T7
open Go Go.RowKit Go.Proofs Go.Avl
set_option linter.unusedVariables false
set_option maxRecDepth 100000
set_option maxHeartbeats 4000000
attribute [local irreducible] AW AO AQ Spec SpecH Calm

end Go.Avl.T7
/- bosket/gram.Same; printed by avmain.py. -/
namespace Go.Avl.T7
open Go Go.RowKit Go.Proofs Go.Avl
set_option linter.unusedVariables false
set_option maxRecDepth 100000
set_option maxHeartbeats 4000000
attribute [local irreducible] AW AO AQ Spec SpecH Calm

end Go.Avl.T7
/- bosket/bosketref17.same; printed by avmain.py. -/
namespace Go.Avl.T7
open Go Go.RowKit Go.Proofs Go.Avl
set_option linter.unusedVariables false
set_option maxRecDepth 100000
set_option maxHeartbeats 4000000
attribute [local irreducible] AW AO AQ Spec SpecH Calm

end Go.Avl.T7
/- bosket/bosketref17.sameProd; printed by avmain.py. -/
namespace Go.Avl.T7
open Go Go.RowKit Go.Proofs Go.Avl
set_option linter.unusedVariables false
set_option maxRecDepth 100000
set_option maxHeartbeats 4000000
attribute [local irreducible] AW AO AQ Spec SpecH Calm

end Go.Avl.T7
/- bosket/bosketref17.Same; printed by avmain.py. -/
namespace Go.Avl.T7
open Go Go.RowKit Go.Proofs Go.Avl
set_option linter.unusedVariables false
set_option maxRecDepth 100000
set_option maxHeartbeats 4000000
attribute [local irreducible] AW AO AQ Spec SpecH Calm

end Go.Avl.T7
/- bosket/gram.Find; printed by avmain.py. -/
namespace Go.Avl.T7
open Go Go.RowKit Go.Proofs Go.Avl
set_option linter.unusedVariables false
set_option maxRecDepth 100000
set_option maxHeartbeats 4000000
attribute [local irreducible] AW AO AQ Spec SpecH Calm

end Go.Avl.T7
/- bosket/bosketref17.Find; printed by avmain.py. -/
namespace Go.Avl.T7
open Go Go.RowKit Go.Proofs Go.Avl
set_option linter.unusedVariables false
set_option maxRecDepth 100000
set_option maxHeartbeats 4000000
attribute [local irreducible] AW AO AQ Spec SpecH Calm

end Go.Avl.T7
/- bosket/bosketref17.Has; printed by avmain.py. -/
namespace Go.Avl.T7
open Go Go.RowKit Go.Proofs Go.Avl
set_option linter.unusedVariables false
set_option maxRecDepth 100000
set_option maxHeartbeats 4000000
attribute [local irreducible] AW AO AQ Spec SpecH Calm

end Go.Avl.T7
/- bosket/bosketref17.Name; printed by avmain.py. -/
namespace Go.Avl.T7
open Go Go.RowKit Go.Proofs Go.Avl
set_option linter.unusedVariables false
set_option maxRecDepth 100000
set_option maxHeartbeats 4000000
attribute [local irreducible] AW AO AQ Spec SpecH Calm

end Go.Avl.T7
/- bosket/gram.Of; printed by avmain.py. -/
namespace Go.Avl.T7
open Go Go.RowKit Go.Proofs Go.Avl
set_option linter.unusedVariables false
set_option maxRecDepth 100000
set_option maxHeartbeats 4000000
attribute [local irreducible] AW AO AQ Spec SpecH Calm

def F20_c0 (k : Nat) (x5 : (List Int)) : Option (List Int) :=
  some (x5)
def F20_c1 (k : Nat) (rec9 : ((List Int) → Int → Option (List Int))) (x8 : Int) (x13 : (List Int)) : Option (List Int) :=
  rec9 x13 (w64 (x8 + (1 : Int)))
def F20_l2 (k : Nat) (p0 : S27) (p1 : Int) : Nat → (List Int) → Int → Option (List Int)
  | 0, _, _ => none
  | j + 1, x7, x8 =>
    if x8 < (p0.f2.length : Int) then if 0 ≤ x8 ∧ x8 < (p0.f2.length : Int) then if ((lget p0.f2 x8).f0) = p1 then if (x7 ++ ([x8] : List Int)).length * 8 ≤ 140737488355328 then F20_c1 k (F20_l2 k p0 p1 j) x8 (x7 ++ ([x8] : List Int))
    else none
    else F20_c1 k (F20_l2 k p0 p1 j) x8 x7
    else none
    else F20_c0 k x7
def F20 (k : Nat) (p0 : S27) (p1 : Int) : Option (List Int) :=
  F20_l2 k p0 p1 k ([] : List Int) (0 : Int)
end Go.Avl.T7
/- bosket/bosketref17.Encloses; printed by avmain.py. -/
namespace Go.Avl.T7
open Go Go.RowKit Go.Proofs Go.Avl
set_option linter.unusedVariables false
set_option maxRecDepth 100000
set_option maxHeartbeats 4000000
attribute [local irreducible] AW AO AQ Spec SpecH Calm

def F23 (k : Nat) (p0 : S37) : Option Bool :=
  Option.bind (α := Bool) (if (p0.f2.length : Int) = (3 : Int) then if 0 ≤ (0 : Int) ∧ (0 : Int) < (p0.f2.length : Int) then if (!((lget p0.f2 (0 : Int)).f0)) = true then if 0 ≤ (1 : Int) ∧ (1 : Int) < (p0.f2.length : Int) then if ((lget p0.f2 (1 : Int)).f0) = true then if 0 ≤ (1 : Int) ∧ (1 : Int) < (p0.f2.length : Int) then if ((lget p0.f2 (1 : Int)).f1) = p0.f0 then if 0 ≤ (2 : Int) ∧ (2 : Int) < (p0.f2.length : Int) then some (!((lget p0.f2 (2 : Int)).f0))
  else none
  else some (false)
  else none
  else some (false)
  else none
  else some (false)
  else none
  else some (false)) fun b3 =>
  some (b3)
end Go.Avl.T7
/- bosket/gram.Paren; printed by avmain.py. -/
namespace Go.Avl.T7
open Go Go.RowKit Go.Proofs Go.Avl
set_option linter.unusedVariables false
set_option maxRecDepth 100000
set_option maxHeartbeats 4000000
attribute [local irreducible] AW AO AQ Spec SpecH Calm

end Go.Avl.T7
/- bosket/gram.Con; printed by avmain.py. -/
namespace Go.Avl.T7
open Go Go.RowKit Go.Proofs Go.Avl
set_option linter.unusedVariables false
set_option maxRecDepth 100000
set_option maxHeartbeats 4000000
attribute [local irreducible] AW AO AQ Spec SpecH Calm

end Go.Avl.T7
