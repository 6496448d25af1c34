/- Parts: T7f5, T7f75, T7f101, T7f102, T7f78, T7f103, T7f104, T7f80, T7f79, T7f106, T7f127, T7f126, T7f105, T7f81, T7f107, T7f82, T7f63, T7f55, T7f60, T7f35, T7f34, T7f58, T7f29, T7f26, T7f46, T7f47, T7f71, T7f72, T7f49, T7f48, T7f51, T7f50, T7f12, T7f53, T7f52, T7f13. -/
import Derived.Test.YtpkgpmmcbpfenaaAF1
import Derived.Test.YtpkgpmmcbpfenaaAF8
import Derived.Test.YtpkgpmmcbpfenaaAF7
import Derived.Test.YtpkgpmmcbpfenaaAF3
import Derived.Test.YtpkgpmmcbpfenaaAF4
import Derived.Test.YtpkgpmmcbpfenaaAF6
/- bosket/bosketlaw17.GramTells; printed by avmain.py. -/
namespace Go.Avl.T7
open Go Go.RowKit Go.Proofs Go.Avl
set_option linter.unusedVariables false
set_option maxRecDepth 100000
set_option maxHeartbeats 4000000
attribute [local irreducible] AW AO AQ Spec SpecH Calm

def bosketlaw17_GramTells_c0 (k : Nat) (p0 : S27) (p1 : S41) (p2 : ByteArray) (t27 : (List Int)) (x28 : Int) (x29 : Int) (x30 : Int) : Option Bool :=
  Option.bind (α := Bool) (if x28 = (t27.length : Int) then (gram_Paren k p0 p1.f1).bind fun t34 =>
  if t34 = x29 then (gram_Con k p0 p2).bind fun t36 =>
  if t36 = x30 then (gram_Line k p0 (p0.f2.length : Int)).bind fun t38 =>
  if t38 = (ByteArray.mk #[]) then (gram_Line k p0 (-1 : Int)).bind fun t40 =>
  some (decide (t40 = (ByteArray.mk #[])))
  else some (false)
  else some (false)
  else some (false)
  else some (false)) fun b31 =>
  some (b31)
def bosketlaw17_GramTells_c1 (k : Nat) (rec45 : (Int → Int → Int → Int → Option Bool)) (x44 : Int) (x48 : Int) (x49 : Int) (x50 : Int) : Option Bool :=
  rec45 x48 x49 x50 (w64 (x44 + (1 : Int)))
def bosketlaw17_GramTells_c2 (k : Nat) (rec45 : (Int → Int → Int → Int → Option Bool)) (p0 : S27) (p1 : S41) (t27 : (List Int)) (x41 : Int) (x42 : Int) (x44 : Int) (x65 : Int) : Option Bool :=
  if ((lget p0.f2 x44).f0) ≠ p1.f1 then bosketlaw17_GramTells_c1 k rec45 x44 x41 x42 x65
  else Option.bind (α := Bool) (if (t27.length : Int) ≤ x41 then some (true)
  else if 0 ≤ x41 ∧ x41 < (t27.length : Int) then some (decide ((lget t27 x41) ≠ x44))
  else none) fun b67 =>
  if b67 = true then some (false)
  else Option.bind (α := Bool) (if x42 < (0 : Int) then some ((lget p0.f2 x44).f3)
  else some (false)) fun b72 =>
  if b72 = true then bosketlaw17_GramTells_c1 k rec45 x44 (w64 (x41 + (1 : Int))) x44 x65
  else bosketlaw17_GramTells_c1 k rec45 x44 (w64 (x41 + (1 : Int))) x42 x65
def bosketlaw17_GramTells_c3 (k : Nat) (rec45 : (Int → Int → Int → Int → Option Bool)) (p0 : S27) (p1 : S41) (p2 : ByteArray) (t27 : (List Int)) (x41 : Int) (x42 : Int) (x43 : Int) (x44 : Int) (x57 : ByteArray) : Option Bool :=
  Option.bind (α := Bool) ((gram_Line k p0 x44).bind fun t60 =>
  if t60 ≠ x57 then some (true)
  else (gram_Encloses k (lget p0.f2 x44)).bind fun t62 =>
  (bosketref17_Encloses k (lget p0.f2 x44)).bind fun t63 =>
  some ((t62 != t63))) fun b58 =>
  if b58 = true then some (false)
  else Option.bind (α := Bool) (if x43 < (0 : Int) then some (decide (((lget p0.f2 x44).f1) = p2))
  else some (false)) fun b76 =>
  if b76 = true then bosketlaw17_GramTells_c2 k rec45 p0 p1 t27 x41 x42 x44 x44
  else bosketlaw17_GramTells_c2 k rec45 p0 p1 t27 x41 x42 x44 x43
def bosketlaw17_GramTells_l4 (k : Nat) (rec45 : (Int → Int → Int → Int → Option Bool)) (p0 : S27) (p1 : S41) (p2 : ByteArray) (t27 : (List Int)) (x41 : Int) (x42 : Int) (x43 : Int) (x44 : Int) : Nat → ByteArray → Int → Option Bool
  | 0, _, _ => none
  | j + 1, x80, x81 =>
    if x81 < (((lget p0.f2 x44).f2).length : Int) then if x80.size + (ByteArray.mk #[32]).size ≤ 9223372036854775807 then if 0 ≤ x81 ∧ x81 < (((lget p0.f2 x44).f2).length : Int) then (bosketref17_Name k p0 (lget ((lget p0.f2 x44).f2) x81)).bind fun t87 =>
    if (x80 ++ (ByteArray.mk #[32])).size + t87.size ≤ 9223372036854775807 then (bosketlaw17_GramTells_l4 k rec45 p0 p1 p2 t27 x41 x42 x43 x44 j) ((x80 ++ (ByteArray.mk #[32])) ++ t87) (w64 (x81 + (1 : Int)))
    else none
    else none
    else none
    else bosketlaw17_GramTells_c3 k rec45 p0 p1 p2 t27 x41 x42 x43 x44 x80
def bosketlaw17_GramTells_l5 (k : Nat) (p0 : S27) (p1 : S41) (p2 : ByteArray) (t27 : (List Int)) : Nat → Int → Int → Int → Int → Option Bool
  | 0, _, _, _, _ => none
  | j + 1, x41, x42, x43, x44 =>
    if x44 < (p0.f2.length : Int) then if 0 ≤ x44 ∧ x44 < (p0.f2.length : Int) then (bosketref17_Name k p0 (S41.mk true ((lget p0.f2 x44).f0))).bind fun t53 =>
    if t53.size + (ByteArray.mk #[46]).size ≤ 9223372036854775807 then if (t53 ++ (ByteArray.mk #[46])).size + ((lget p0.f2 x44).f1).size ≤ 9223372036854775807 then if ((t53 ++ (ByteArray.mk #[46])) ++ ((lget p0.f2 x44).f1)).size + (ByteArray.mk #[32, 61]).size ≤ 9223372036854775807 then bosketlaw17_GramTells_l4 k (bosketlaw17_GramTells_l5 k p0 p1 p2 t27 j) p0 p1 p2 t27 x41 x42 x43 x44 k (((t53 ++ (ByteArray.mk #[46])) ++ ((lget p0.f2 x44).f1)) ++ (ByteArray.mk #[32, 61])) (0 : Int)
    else none
    else none
    else none
    else none
    else bosketlaw17_GramTells_c0 k p0 p1 p2 t27 x41 x42 x43
def bosketlaw17_GramTells (k : Nat) (p0 : S27) (p1 : S41) (p2 : ByteArray) : Option Bool :=
  (bosketlaw17_awake k).bind fun t6 =>
  if (!t6) = true then some (false)
  else Option.bind (α := Bool) ((bosketlaw17_Few k p0).bind fun t10 =>
  if (!t10) = true then some (true)
  else some (decide ((100 : Int) < (p2.size : Int)))) fun b8 =>
  if b8 = true then some (true)
  else (gram_Find k p0 p2).bind fun t13 =>
  (bosketref17_Find k p0 p2).bind fun t15 =>
  Option.bind (α := Bool) ((gram_Has k p0 p1).bind fun t19 =>
  (bosketref17_Has k p0 p1).bind fun t20 =>
  if (t19 != t20) = true then some (true)
  else (gram_Name k p0 p1).bind fun t22 =>
  (bosketref17_Name k p0 p1).bind fun t23 =>
  if t22 ≠ t23 then some (true)
  else if (!(decide (t13.1 = t15.1))) = true then some (true)
  else some ((t13.2 != t15.2))) fun b17 =>
  if b17 = true then some (false)
  else (gram_Of k p0 p1.f1).bind fun t27 =>
  bosketlaw17_GramTells_l5 k p0 p1 p2 t27 k (0 : Int) (-1 : Int) (-1 : Int) (0 : Int)
theorem bosketlaw17_GramTells_spec {k : Nat} {p0 : S27} {p1 : S41} {p2 : ByteArray} {r : Bool} (h : bosketlaw17_GramTells k p0 p1 p2 = some r) : Spec Try.prog 5 [(e27 p0), (e41 p1), (eStr p2)] (eBool r) := by
  rw [bosketlaw17_GramTells.eq_1] at h
  refine Spec.intro (res := [.tmp 6]) Try.func5 rfl rfl rfl (Nat.le_of_ble_eq_true rfl) ?_
  refine AW.sr ?_
  refine AO.box rfl 3 rfl (by decide) rfl rfl rfl fun n4 => ?_
  refine AO.box rfl 4 rfl (by decide) rfl rfl rfl fun n5 => ?_
  refine AO.c (Calm.assign rfl rfl) ?_
  refine AO.nH [2, 3, 4] (H' := [(n4, (.mem (e27 p0))), (n5, (.mem (e41 p1)))]) (Sub.cons 1 rfl (Sub.cons 0 rfl (Sub.nil _))) ?_
  refine AW.seq ?_
  refine AW.sr ?_
  obtain ⟨t6, et6, h⟩ := of_bind h
  refine AO.callS [] (eBool t6) 19 rfl (by decide) ok9 rfl rfl rfl trivial (bosketlaw17_awake_spec et6) ?_
  refine AO.c (Calm.not rfl rfl) ?_
  refine AO.nK [2, 3, 4, 20] ?_
  rcases of_ite h with ⟨hc7, h⟩ | ⟨hc7, h⟩
  ·refine AW.condT' _ rfl hc7 ?_
   refine AW.sr ?_
   refine AO.c (Calm.assign rfl rfl) ?_
   refine AO.nH [6] (H' := []) (Sub.nil _) ?_
   refine AW.rK [6] ?_
   have hr := Option.some.inj h
   subst hr
   exact ⟨[(eBool false)], ⟨rfl, rfl, trivial⟩, rfl⟩
  ·refine AW.condF' _ rfl hc7 ?_
   refine AW.sK [2, 3, 4] ?_
   refine AW.seq ?_
   refine AW.seq ?_
   obtain ⟨b8, hq9, h⟩ := of_bind h
   refine AW.regM [(2, (eStr p2)), (3, (.ptr n4 0)), (4, (.ptr n5 0)), (28, (eBool b8))] [(n4, (.mem (e27 p0))), (n5, (.mem (e41 p1)))] ?_ ?_
   ·refine AO.c (Calm.load 0 rfl rfl rfl (At.cast At.here rfl) ag27 sz27) ?_
    obtain ⟨t10, et10, hq9⟩ := of_bind hq9
    refine AO.callS [(e27 p0)] (eBool t10) 22 rfl (by decide) ok10 rfl rfl rfl ⟨rfl, rfl, trivial⟩ (bosketlaw17_Few_spec et10) ?_
    refine AO.c (Calm.not rfl rfl) ?_
    refine AO.c (Calm.move rfl rfl) ?_
    rcases of_ite hq9 with ⟨hc11, hq9⟩ | ⟨hc11, hq9⟩
    ·refine AO.sF rfl rfl (bD hc11) ?_
     refine AO.sF rfl rfl (bD hc11) ?_
     refine AO.sF rfl rfl (bD hc11) ?_
     refine AO.c (Calm.pickT rfl (bD hc11) rfl) ?_
     cases hq9
     refine AO.nilE ⟨rfl, rfl⟩ ?_ ?_
     · exact ⟨rfl, rfl, rfl, rfl, trivial⟩
     · exact (Sub.refl _)
    ·refine AO.cG rfl rfl (bD (eq_false_of_ne_true hc11)) (Calm.move rfl rfl) ?_
     refine AO.cG rfl rfl (bD (eq_false_of_ne_true hc11)) (Calm.lenStr rfl rfl Try.underlying9) ?_
     refine AO.cG (x := eBool (decide ((100 : Int) < (p2.size : Int)))) rfl rfl (bD (eq_false_of_ne_true hc11)) (Calm.int rfl rfl rfl rfl) ?_
     refine AO.c (Calm.pickF rfl (bD (eq_false_of_ne_true hc11)) rfl) ?_
     cases hq9
     refine AO.nilE ⟨rfl, rfl⟩ ?_ ?_
     · exact ⟨rfl, rfl, rfl, rfl, trivial⟩
     · exact (Sub.refl _)
   ·rcases of_ite h with ⟨hc12, h⟩ | ⟨hc12, h⟩
    ·refine AW.condT' _ rfl hc12 ?_
     refine AW.sr ?_
     refine AO.c (Calm.assign rfl rfl) ?_
     refine AO.nH [6] (H' := []) (Sub.nil _) ?_
     refine AW.rK [6] ?_
     have hr := Option.some.inj h
     subst hr
     exact ⟨[(eBool true)], ⟨rfl, rfl, trivial⟩, rfl⟩
    ·refine AW.condF' _ rfl hc12 ?_
     refine AW.sK [2, 3, 4] ?_
     refine AW.sr ?_
     refine AO.c (Calm.load 0 rfl rfl rfl (At.cast At.here rfl) ag27 sz27) ?_
     refine AO.c (Calm.move rfl rfl) ?_
     obtain ⟨t13, et13, h⟩ := of_bind h
     refine AO.callS [(e27 p0), (eStr p2)] (.tup [(e41 t13.1), (eBool t13.2)]) 32 rfl (by decide) ok14 rfl rfl rfl ⟨rfl, rfl, rfl, rfl, trivial⟩ (gram_Find_spec et13) ?_
     refine AO.c (Calm.move rfl rfl) ?_
     refine AO.c (Calm.extract rfl rfl rfl) ?_
     refine AO.c (Calm.extract rfl rfl rfl) ?_
     refine AO.alloc rfl 7 rfl (by decide) rfl zr41 lay41 fun n14 => ?_
     refine AO.store (X' := (e41 t13.1)) 0 rfl rfl rfl rfl rfl rfl (Put.cast Put.here rfl) rfl rfl sz41 rfl ?_
     refine AO.c (Calm.assign rfl rfl) ?_
     refine AO.nH [2, 3, 4, 7, 8] (H' := [(n4, (.mem (e27 p0))), (n5, (.mem (e41 p1))), (n14, (.mem (e41 t13.1)))]) (Sub.cons 1 rfl (Sub.cons 1 rfl (Sub.cons 0 rfl (Sub.nil _)))) ?_
     refine AW.sr ?_
     refine AO.c (Calm.load 0 rfl rfl rfl (At.cast At.here rfl) ag27 sz27) ?_
     refine AO.c (Calm.move rfl rfl) ?_
     obtain ⟨t15, et15, h⟩ := of_bind h
     refine AO.callS [(e27 p0), (eStr p2)] (.tup [(e41 t15.1), (eBool t15.2)]) 38 rfl (by decide) ok15 rfl rfl rfl ⟨rfl, rfl, rfl, rfl, trivial⟩ (bosketref17_Find_spec et15) ?_
     refine AO.c (Calm.move rfl rfl) ?_
     refine AO.c (Calm.extract rfl rfl rfl) ?_
     refine AO.c (Calm.extract rfl rfl rfl) ?_
     refine AO.alloc rfl 9 rfl (by decide) rfl zr41 lay41 fun n16 => ?_
     refine AO.store (X' := (e41 t15.1)) 0 rfl rfl rfl rfl rfl rfl (Put.cast Put.here rfl) rfl rfl sz41 rfl ?_
     refine AO.c (Calm.assign rfl rfl) ?_
     refine AO.nH [2, 3, 4, 7, 8, 9, 10] (H' := [(n4, (.mem (e27 p0))), (n5, (.mem (e41 p1))), (n14, (.mem (e41 t13.1))), (n16, (.mem (e41 t15.1)))]) (Sub.cons 1 rfl (Sub.cons 1 rfl (Sub.cons 1 rfl (Sub.cons 0 rfl (Sub.nil _))))) ?_
     refine AW.seq ?_
     refine AW.seq ?_
     obtain ⟨b17, hq18, h⟩ := of_bind h
     refine AW.regQM (by rfl) (by decide +kernel) [(2, (eStr p2)), (3, (.ptr n4 0)), (4, (.ptr n5 0)), (66, (eBool b17))] ?_ ?_
     ·refine AQ.c (Calm.load 0 rfl rfl rfl (At.cast At.here rfl) ag27 sz27) ?_
      refine AQ.c (Calm.load 1 rfl rfl rfl (At.cast At.here rfl) ag41 sz41) ?_
      obtain ⟨t19, et19, hq18⟩ := of_bind hq18
      refine AQ.c (Calm.call (args := [(e27 p0), (e41 p1)]) rfl rfl ok16 ⟨rfl, rfl, rfl, rfl, trivial⟩ rfl (gram_Has_spec et19)) ?_
      refine AQ.c (Calm.load 0 rfl rfl rfl (At.cast At.here rfl) ag27 sz27) ?_
      refine AQ.c (Calm.load 1 rfl rfl rfl (At.cast At.here rfl) ag41 sz41) ?_
      obtain ⟨t20, et20, hq18⟩ := of_bind hq18
      refine AQ.c (Calm.call (args := [(e27 p0), (e41 p1)]) rfl rfl ok17 ⟨rfl, rfl, rfl, rfl, trivial⟩ rfl (bosketref17_Has_spec et20)) ?_
      refine AQ.c (x := eBool (t19 != t20)) (Calm.boolNe rfl rfl rfl Try.underlying4) ?_
      refine AQ.c (Calm.move rfl rfl) ?_
      rcases of_ite hq18 with ⟨hc21, hq18⟩ | ⟨hc21, hq18⟩
      ·refine AQ.sF rfl rfl (bD hc21) ?_
       refine AQ.sF rfl rfl (bD hc21) ?_
       refine AQ.sF rfl rfl (bD hc21) ?_
       refine AQ.sF rfl rfl (bD hc21) ?_
       refine AQ.sF rfl rfl (bD hc21) ?_
       refine AQ.sF rfl rfl (bD hc21) ?_
       refine AQ.sF rfl rfl (bD hc21) ?_
       refine AQ.c (Calm.pickT rfl (bD hc21) rfl) ?_
       refine AQ.c (Calm.move rfl rfl) ?_
       refine AQ.sF rfl rfl rfl ?_
       refine AQ.sF rfl rfl rfl ?_
       refine AQ.sF rfl rfl rfl ?_
       refine AQ.c (Calm.pickT rfl rfl rfl) ?_
       refine AQ.c (Calm.move rfl rfl) ?_
       refine AQ.sF rfl rfl rfl ?_
       refine AQ.sF rfl rfl rfl ?_
       refine AQ.sF rfl rfl rfl ?_
       refine AQ.c (Calm.pickT rfl rfl rfl) ?_
       cases hq18
       refine AQ.nilE rfl ?_
       exact ⟨rfl, rfl, rfl, rfl, trivial⟩
      ·refine AQ.cG rfl rfl (bD (eq_false_of_ne_true hc21)) (Calm.load 0 rfl rfl rfl (At.cast At.here rfl) ag27 sz27) ?_
       refine AQ.cG rfl rfl (bD (eq_false_of_ne_true hc21)) (Calm.load 1 rfl rfl rfl (At.cast At.here rfl) ag41 sz41) ?_
       obtain ⟨t22, et22, hq18⟩ := of_bind hq18
       refine AQ.cG rfl rfl (bD (eq_false_of_ne_true hc21)) (Calm.call (args := [(e27 p0), (e41 p1)]) rfl rfl ok18 ⟨rfl, rfl, rfl, rfl, trivial⟩ rfl (gram_Name_spec et22)) ?_
       refine AQ.cG rfl rfl (bD (eq_false_of_ne_true hc21)) (Calm.load 0 rfl rfl rfl (At.cast At.here rfl) ag27 sz27) ?_
       refine AQ.cG rfl rfl (bD (eq_false_of_ne_true hc21)) (Calm.load 1 rfl rfl rfl (At.cast At.here rfl) ag41 sz41) ?_
       obtain ⟨t23, et23, hq18⟩ := of_bind hq18
       refine AQ.cG rfl rfl (bD (eq_false_of_ne_true hc21)) (Calm.call (args := [(e27 p0), (e41 p1)]) rfl rfl ok19 ⟨rfl, rfl, rfl, rfl, trivial⟩ rfl (bosketref17_Name_spec et23)) ?_
       refine AQ.cG (x := eBool (decide (t22 ≠ t23))) rfl rfl (bD (eq_false_of_ne_true hc21)) (Calm.str rfl rfl rfl rfl) ?_
       refine AQ.c (Calm.pickF rfl (bD (eq_false_of_ne_true hc21)) rfl) ?_
       refine AQ.c (Calm.move rfl rfl) ?_
       rcases of_ite hq18 with ⟨hc24, hq18⟩ | ⟨hc24, hq18⟩
       ·refine AQ.sF rfl rfl (bD (decide_eq_true hc24)) ?_
        refine AQ.sF rfl rfl (bD (decide_eq_true hc24)) ?_
        refine AQ.sF rfl rfl (bD (decide_eq_true hc24)) ?_
        refine AQ.c (Calm.pickT rfl (bD (decide_eq_true hc24)) rfl) ?_
        refine AQ.c (Calm.move rfl rfl) ?_
        refine AQ.sF rfl rfl rfl ?_
        refine AQ.sF rfl rfl rfl ?_
        refine AQ.sF rfl rfl rfl ?_
        refine AQ.c (Calm.pickT rfl rfl rfl) ?_
        cases hq18
        refine AQ.nilE rfl ?_
        exact ⟨rfl, rfl, rfl, rfl, trivial⟩
       ·refine AQ.cG rfl rfl (bD (decide_eq_false hc24)) (Calm.load 2 rfl rfl rfl (At.cast At.here rfl) ag41 sz41) ?_
        refine AQ.cG rfl rfl (bD (decide_eq_false hc24)) (Calm.load 3 rfl rfl rfl (At.cast At.here rfl) ag41 sz41) ?_
        refine AQ.cG (x := eBool (!(decide (t13.1 = t15.1)))) rfl rfl (bD (decide_eq_false hc24)) (Calm.neS rfl rfl rfl eg41 (eqk41 t13.1 t15.1) (by decide)) ?_
        refine AQ.c (Calm.pickF rfl (bD (decide_eq_false hc24)) rfl) ?_
        refine AQ.c (Calm.move rfl rfl) ?_
        rcases of_ite hq18 with ⟨hc25, hq18⟩ | ⟨hc25, hq18⟩
        ·refine AQ.sF rfl rfl (bD hc25) ?_
         refine AQ.sF rfl rfl (bD hc25) ?_
         refine AQ.sF rfl rfl (bD hc25) ?_
         refine AQ.c (Calm.pickT rfl (bD hc25) rfl) ?_
         cases hq18
         refine AQ.nilE rfl ?_
         exact ⟨rfl, rfl, rfl, rfl, trivial⟩
        ·refine AQ.cG rfl rfl (bD (eq_false_of_ne_true hc25)) (Calm.move rfl rfl) ?_
         refine AQ.cG rfl rfl (bD (eq_false_of_ne_true hc25)) (Calm.move rfl rfl) ?_
         refine AQ.cG (x := eBool (t13.2 != t15.2)) rfl rfl (bD (eq_false_of_ne_true hc25)) (Calm.boolNe rfl rfl rfl Try.underlying4) ?_
         refine AQ.c (Calm.pickF rfl (bD (eq_false_of_ne_true hc25)) rfl) ?_
         cases hq18
         refine AQ.nilE rfl ?_
         exact ⟨rfl, rfl, rfl, rfl, trivial⟩
     ·rcases of_ite h with ⟨hc26, h⟩ | ⟨hc26, h⟩
      ·refine AW.condT' _ rfl hc26 ?_
       refine AW.sr ?_
       refine AO.c (Calm.assign rfl rfl) ?_
       refine AO.nH [6] (H' := []) (Sub.nil _) ?_
       refine AW.rK [6] ?_
       have hr := Option.some.inj h
       subst hr
       exact ⟨[(eBool false)], ⟨rfl, rfl, trivial⟩, rfl⟩
      ·refine AW.condF' _ rfl hc26 ?_
       refine AW.sH [2, 3, 4] (H' := [(n4, (.mem (e27 p0))), (n5, (.mem (e41 p1)))]) (Sub.cons 0 rfl (Sub.cons 0 rfl (Sub.nil _))) ?_
       refine AW.sr ?_
       refine AO.c (Calm.load 0 rfl rfl rfl (At.cast At.here rfl) ag27 sz27) ?_
       refine AO.c (x := .ptr n5 1) (Calm.fldPtr rfl rfl Try.underlying41 rfl sz3 _ rfl) ?_
       refine AO.c (Calm.load 1 rfl rfl rfl (At.cast (At.fldS (At.fld0 At.here)) rfl) ag3 sz3) ?_
       obtain ⟨t27, et27, h⟩ := of_bind h
       refine AO.callS [(e27 p0), (eI64 p1.f1)] (.fz 1 (t27.map eI64)) 70 rfl (by decide) ok20 rfl rfl rfl ⟨rfl, rfl, rfl, rfl, trivial⟩ (gram_Of_spec et27) ?_
       refine AO.c (Calm.assign rfl rfl) ?_
       refine AO.c (Calm.assign rfl rfl) ?_
       refine AO.c (Calm.assign rfl rfl) ?_
       refine AO.c (Calm.assign rfl rfl) ?_
       refine AO.nK [2, 3, 4, 11, 12, 13, 14] ?_
       refine AW.seq_mid (fun ρ H => ∃ (x28 : Int) (x29 : Int) (x30 : Int), ρ = [(2, (eStr p2)), (3, (.ptr n4 0)), (4, (.ptr n5 0)), (11, (.fz 1 (t27.map eI64))), (12, (eI64 x28)), (13, (eI64 x29)), (14, (eI64 x30))] ∧ H = [(n4, (.mem (e27 p0))), (n5, (.mem (e41 p1)))] ∧ bosketlaw17_GramTells_c0 k p0 p1 p2 t27 x28 x29 x30 = some r) ?_ ?_
       ·refine AW.sr ?_
        refine AO.c (Calm.assign rfl rfl) ?_
        refine AO.nK [2, 3, 4, 11, 12, 13, 14, 15] ?_
        refine AW.block ?_
        refine AW.wK [2, 3, 4, 11, 12, 13, 14, 15] ?_
        refine AW.loop (fun kq ρ H => ∃ (x41 : Int) (x42 : Int) (x43 : Int) (x44 : Int), ρ = [(2, (eStr p2)), (3, (.ptr n4 0)), (4, (.ptr n5 0)), (11, (.fz 1 (t27.map eI64))), (12, (eI64 x41)), (13, (eI64 x42)), (14, (eI64 x43)), (15, (eI64 x44))] ∧ H = [(n4, (.mem (e27 p0))), (n5, (.mem (e41 p1)))] ∧ bosketlaw17_GramTells_l5 k p0 p1 p2 t27 kq x41 x42 x43 x44 = some r) k ⟨(0 : Int), (-1 : Int), (-1 : Int), (0 : Int), rfl, rfl, h⟩ ?_
        rintro kq46 _ _ ⟨x41, x42, x43, x44, rfl, rfl, h⟩
        cases kq46 with
        | zero => rw [bosketlaw17_GramTells_l5.eq_1] at h; cases h
        | succ kq46 =>
        rw [bosketlaw17_GramTells_l5.eq_2] at h
        generalize hrec45 : bosketlaw17_GramTells_l5 k p0 p1 p2 t27 kq46 = rec45 at h
        refine AW.seq ?_
        refine AW.sr ?_
        refine AO.c (Calm.move rfl rfl) ?_
        refine AO.c (x := .ptr n4 2) (Calm.fldPtr rfl rfl Try.underlying27 rfl sz24 _ rfl) ?_
        refine AO.c (Calm.load 0 rfl rfl rfl (At.cast (At.fldS (At.fldS (At.fld0 At.here))) rfl) ag24 sz24) ?_
        refine AO.c (Calm.lenL rfl rfl Try.underlying24) ?_
        refine AO.c (x := eBool (decide (x44 < (p0.f2.length : Int)))) (Calm.int rfl rfl rfl rfl) ?_
        refine AO.nK [2, 3, 4, 11, 12, 13, 14, 15, 75] ?_
        rcases of_ite h with ⟨hc47, h⟩ | ⟨hc47, h⟩
        ·refine AW.condP _ rfl hc47 ?_
         refine AW.sK [2, 3, 4, 11, 12, 13, 14, 15] ?_
         refine AW.seq_mid (fun ρ H => ∃ (x48 : Int) (x49 : Int) (x50 : Int), ρ = [(2, (eStr p2)), (3, (.ptr n4 0)), (4, (.ptr n5 0)), (11, (.fz 1 (t27.map eI64))), (12, (eI64 x48)), (13, (eI64 x49)), (14, (eI64 x50)), (15, (eI64 x44))] ∧ H = [(n4, (.mem (e27 p0))), (n5, (.mem (e41 p1)))] ∧ bosketlaw17_GramTells_c1 k rec45 x44 x48 x49 x50 = some r) ?_ ?_
         ·refine AW.block ?_
          refine AW.sr ?_
          refine AO.c (x := .ptr n4 2) (Calm.fldPtr rfl rfl Try.underlying27 rfl sz24 _ rfl) ?_
          refine AO.c (Calm.load 0 rfl rfl rfl (At.cast (At.fldS (At.fldS (At.fld0 At.here))) rfl) ag24 sz24) ?_
          refine AO.c (Calm.move rfl rfl) ?_
          obtain ⟨hg51, h⟩ := of_guard h
          refine AO.c (Calm.idxL (f := e37) rfl rfl rfl hg51 Try.underlying24 sz37) ?_
          refine AO.c (Calm.loadRp rfl rfl ag37 sz37) ?_
          refine AO.alloc rfl 16 rfl (by decide) rfl zr37 lay37 fun n52 => ?_
          refine AO.store (X' := (e37 (lget p0.f2 x44))) 0 rfl rfl rfl rfl rfl rfl (Put.cast Put.here rfl) rfl rfl sz37 rfl ?_
          refine AO.nH [2, 3, 4, 11, 12, 13, 14, 15, 16] (H' := [(n4, (.mem (e27 p0))), (n5, (.mem (e41 p1))), (n52, (.mem (e37 (lget p0.f2 x44))))]) (Sub.cons 1 rfl (Sub.cons 1 rfl (Sub.cons 0 rfl (Sub.nil _)))) ?_
          refine AW.seq ?_
          refine AW.regQ (by rfl) (by decide +kernel) ?_
          refine AQ.c (Calm.load 0 rfl rfl rfl (At.cast At.here rfl) ag27 sz27) ?_
          refine AQ.c (x := .ptr n52 0) (Calm.fldPtr rfl rfl Try.underlying37 rfl sz3 _ rfl) ?_
          refine AQ.c (Calm.load 2 rfl rfl rfl (At.cast (At.fld0 At.here) rfl) ag3 sz3) ?_
          refine AQ.c (x := .st [(1, (eBool true)), (1, (eI64 ((lget p0.f2 x44).f0)))]) (Calm.build (qs := [(0, (eBool true)), (1, (eI64 ((lget p0.f2 x44).f0)))]) rfl ⟨rfl, rfl, rfl, rfl, rfl, rfl, trivial⟩ Try.underlying41 rfl zr41 lay41 (.cons rfl rfl rfl rfl (Put.cast (Put.fld0 Put.here) rfl) (.cons rfl rfl rfl rfl (Put.cast (Put.fldS (Put.fld0 Put.here)) rfl) .nil)) rfl) ?_
          obtain ⟨t53, et53, h⟩ := of_bind h
          refine AQ.c (Calm.call (args := [(e27 p0), (e41 (S41.mk true ((lget p0.f2 x44).f0)))]) rfl rfl ok19 ⟨rfl, rfl, rfl, rfl, trivial⟩ rfl (bosketref17_Name_spec et53)) ?_
          obtain ⟨hg54, h⟩ := of_guard h
          refine AQ.c (x := eStr (t53 ++ (ByteArray.mk #[46]))) (Calm.cat rfl rfl rfl hg54) ?_
          refine AQ.c (x := .ptr n52 1) (Calm.fldPtr rfl rfl Try.underlying37 rfl sz9 _ rfl) ?_
          refine AQ.c (Calm.load 2 rfl rfl rfl (At.cast (At.fldS (At.fld0 At.here)) rfl) ag9 sz9) ?_
          obtain ⟨hg55, h⟩ := of_guard h
          refine AQ.c (x := eStr ((t53 ++ (ByteArray.mk #[46])) ++ ((lget p0.f2 x44).f1))) (Calm.cat rfl rfl rfl hg55) ?_
          obtain ⟨hg56, h⟩ := of_guard h
          refine AQ.c (x := eStr (((t53 ++ (ByteArray.mk #[46])) ++ ((lget p0.f2 x44).f1)) ++ (ByteArray.mk #[32, 61]))) (Calm.cat rfl rfl rfl hg56) ?_
          refine AQ.c (Calm.assign rfl rfl) ?_
          refine AQ.nK [2, 3, 4, 11, 12, 13, 14, 15, 16, 17] ?_
          refine AW.seq_mid (fun ρ H => ∃ (x57 : ByteArray), ρ = [(2, (eStr p2)), (3, (.ptr n4 0)), (4, (.ptr n5 0)), (11, (.fz 1 (t27.map eI64))), (12, (eI64 x41)), (13, (eI64 x42)), (14, (eI64 x43)), (15, (eI64 x44)), (16, (.ptr n52 0)), (17, (eStr x57))] ∧ H = [(n4, (.mem (e27 p0))), (n5, (.mem (e41 p1))), (n52, (.mem (e37 (lget p0.f2 x44))))] ∧ bosketlaw17_GramTells_c3 k rec45 p0 p1 p2 t27 x41 x42 x43 x44 x57 = some r) ?_ ?_
          ·refine AW.sr ?_
           refine AO.c (Calm.assign rfl rfl) ?_
           refine AO.nK [2, 3, 4, 11, 12, 13, 14, 15, 16, 17, 18] ?_
           refine AW.block ?_
           refine AW.wK [2, 3, 4, 11, 12, 13, 14, 15, 16, 17, 18] ?_
           refine AW.loop (fun kq ρ H => ∃ (x80 : ByteArray) (x81 : Int), ρ = [(2, (eStr p2)), (3, (.ptr n4 0)), (4, (.ptr n5 0)), (11, (.fz 1 (t27.map eI64))), (12, (eI64 x41)), (13, (eI64 x42)), (14, (eI64 x43)), (15, (eI64 x44)), (16, (.ptr n52 0)), (17, (eStr x80)), (18, (eI64 x81))] ∧ H = [(n4, (.mem (e27 p0))), (n5, (.mem (e41 p1))), (n52, (.mem (e37 (lget p0.f2 x44))))] ∧ bosketlaw17_GramTells_l4 k rec45 p0 p1 p2 t27 x41 x42 x43 x44 kq x80 x81 = some r) k ⟨(((t53 ++ (ByteArray.mk #[46])) ++ ((lget p0.f2 x44).f1)) ++ (ByteArray.mk #[32, 61])), (0 : Int), rfl, rfl, h⟩ ?_
           rintro kq83 _ _ ⟨x80, x81, rfl, rfl, h⟩
           cases kq83 with
           | zero => rw [bosketlaw17_GramTells_l4.eq_1] at h; cases h
           | succ kq83 =>
           rw [bosketlaw17_GramTells_l4.eq_2] at h
           generalize hrec82 : bosketlaw17_GramTells_l4 k rec45 p0 p1 p2 t27 x41 x42 x43 x44 kq83 = rec82 at h
           refine AW.seq ?_
           refine AW.sr ?_
           refine AO.c (Calm.move rfl rfl) ?_
           refine AO.c (x := .ptr n52 2) (Calm.fldPtr rfl rfl Try.underlying37 rfl sz34 _ rfl) ?_
           refine AO.c (Calm.load 2 rfl rfl rfl (At.cast (At.fldS (At.fldS (At.fld0 At.here))) rfl) ag34 sz34) ?_
           refine AO.c (Calm.lenL rfl rfl Try.underlying34) ?_
           refine AO.c (x := eBool (decide (x81 < (((lget p0.f2 x44).f2).length : Int)))) (Calm.int rfl rfl rfl rfl) ?_
           refine AO.nK [2, 3, 4, 11, 12, 13, 14, 15, 16, 17, 18, 97] ?_
           rcases of_ite h with ⟨hc84, h⟩ | ⟨hc84, h⟩
           ·refine AW.condP _ rfl hc84 ?_
            refine AW.sK [2, 3, 4, 11, 12, 13, 14, 15, 16, 17, 18] ?_
            refine AW.seq ?_
            refine AW.block ?_
            refine AW.regQ (by rfl) (by decide +kernel) ?_
            refine AQ.c (Calm.move rfl rfl) ?_
            obtain ⟨hg85, h⟩ := of_guard h
            refine AQ.c (x := eStr (x80 ++ (ByteArray.mk #[32]))) (Calm.cat rfl rfl rfl hg85) ?_
            refine AQ.c (Calm.load 0 rfl rfl rfl (At.cast At.here rfl) ag27 sz27) ?_
            refine AQ.c (x := .ptr n52 2) (Calm.fldPtr rfl rfl Try.underlying37 rfl sz34 _ rfl) ?_
            refine AQ.c (Calm.load 2 rfl rfl rfl (At.cast (At.fldS (At.fldS (At.fld0 At.here))) rfl) ag34 sz34) ?_
            refine AQ.c (Calm.move rfl rfl) ?_
            obtain ⟨hg86, h⟩ := of_guard h
            refine AQ.c (Calm.idxL (f := e41) rfl rfl rfl hg86 Try.underlying34 sz41) ?_
            refine AQ.c (Calm.loadRp rfl rfl ag41 sz41) ?_
            obtain ⟨t87, et87, h⟩ := of_bind h
            refine AQ.c (Calm.call (args := [(e27 p0), (e41 (lget ((lget p0.f2 x44).f2) x81))]) rfl rfl ok19 ⟨rfl, rfl, rfl, rfl, trivial⟩ rfl (bosketref17_Name_spec et87)) ?_
            obtain ⟨hg88, h⟩ := of_guard h
            refine AQ.c (x := eStr ((x80 ++ (ByteArray.mk #[32])) ++ t87)) (Calm.cat rfl rfl rfl hg88) ?_
            refine AQ.c (Calm.assign rfl rfl) ?_
            refine AQ.nK [2, 3, 4, 11, 12, 13, 14, 15, 16, 17, 18] ?_
            refine AW.reg ?_
            refine AO.c (Calm.move rfl rfl) ?_
            refine AO.c (x := eI64 (w64 (x81 + (1 : Int)))) (Calm.int rfl rfl rfl rfl) ?_
            refine AO.c (Calm.assign rfl rfl) ?_
            refine AO.nK [2, 3, 4, 11, 12, 13, 14, 15, 16, 17, 18] ?_
            exact ⟨kq83, Nat.lt_succ_self _, ((x80 ++ (ByteArray.mk #[32])) ++ t87), (w64 (x81 + (1 : Int))), rfl, rfl, by rw [hrec82]; exact h⟩
           ·refine AW.condN _ rfl hc84 ?_
            refine AW.eK [2, 3, 4, 11, 12, 13, 14, 15, 16, 17] ?_
            exact ⟨x80, rfl, rfl, h⟩
          ·rintro _ _ ⟨x57, rfl, rfl, h⟩
           rw [bosketlaw17_GramTells_c3.eq_1] at h
           refine AW.seq ?_
           refine AW.seq ?_
           obtain ⟨b58, hq59, h⟩ := of_bind h
           refine AW.regQM (by rfl) (by decide +kernel) [(2, (eStr p2)), (3, (.ptr n4 0)), (4, (.ptr n5 0)), (11, (.fz 1 (t27.map eI64))), (12, (eI64 x41)), (13, (eI64 x42)), (14, (eI64 x43)), (15, (eI64 x44)), (16, (.ptr n52 0)), (121, (eBool b58))] ?_ ?_
           ·refine AQ.c (Calm.load 0 rfl rfl rfl (At.cast At.here rfl) ag27 sz27) ?_
            refine AQ.c (Calm.move rfl rfl) ?_
            obtain ⟨t60, et60, hq59⟩ := of_bind hq59
            refine AQ.c (Calm.call (args := [(e27 p0), (eI64 x44)]) rfl rfl ok21 ⟨rfl, rfl, rfl, rfl, trivial⟩ rfl (gram_Line_spec et60)) ?_
            refine AQ.c (Calm.move rfl rfl) ?_
            refine AQ.c (x := eBool (decide (t60 ≠ x57))) (Calm.str rfl rfl rfl rfl) ?_
            refine AQ.c (Calm.move rfl rfl) ?_
            rcases of_ite hq59 with ⟨hc61, hq59⟩ | ⟨hc61, hq59⟩
            ·refine AQ.sF rfl rfl (bD (decide_eq_true hc61)) ?_
             refine AQ.sF rfl rfl (bD (decide_eq_true hc61)) ?_
             refine AQ.sF rfl rfl (bD (decide_eq_true hc61)) ?_
             refine AQ.sF rfl rfl (bD (decide_eq_true hc61)) ?_
             refine AQ.sF rfl rfl (bD (decide_eq_true hc61)) ?_
             refine AQ.c (Calm.pickT rfl (bD (decide_eq_true hc61)) rfl) ?_
             cases hq59
             refine AQ.nilE rfl ?_
             exact ⟨rfl, rfl, rfl, rfl, rfl, rfl, rfl, rfl, rfl, rfl, trivial⟩
            ·refine AQ.cG rfl rfl (bD (decide_eq_false hc61)) (Calm.load 2 rfl rfl rfl (At.cast At.here rfl) ag37 sz37) ?_
             obtain ⟨t62, et62, hq59⟩ := of_bind hq59
             refine AQ.cG rfl rfl (bD (decide_eq_false hc61)) (Calm.call (args := [(e37 (lget p0.f2 x44))]) rfl rfl ok22 ⟨rfl, rfl, trivial⟩ rfl (gram_Encloses_spec et62)) ?_
             refine AQ.cG rfl rfl (bD (decide_eq_false hc61)) (Calm.load 2 rfl rfl rfl (At.cast At.here rfl) ag37 sz37) ?_
             obtain ⟨t63, et63, hq59⟩ := of_bind hq59
             refine AQ.cG rfl rfl (bD (decide_eq_false hc61)) (Calm.call (args := [(e37 (lget p0.f2 x44))]) rfl rfl ok23 ⟨rfl, rfl, trivial⟩ rfl (bosketref17_Encloses_spec et63)) ?_
             refine AQ.cG (x := eBool (t62 != t63)) rfl rfl (bD (decide_eq_false hc61)) (Calm.boolNe rfl rfl rfl Try.underlying4) ?_
             refine AQ.c (Calm.pickF rfl (bD (decide_eq_false hc61)) rfl) ?_
             cases hq59
             refine AQ.nilE rfl ?_
             exact ⟨rfl, rfl, rfl, rfl, rfl, rfl, rfl, rfl, rfl, rfl, trivial⟩
           ·rcases of_ite h with ⟨hc64, h⟩ | ⟨hc64, h⟩
            ·refine AW.condT' _ rfl hc64 ?_
             refine AW.sr ?_
             refine AO.c (Calm.assign rfl rfl) ?_
             refine AO.nH [6] (H' := []) (Sub.nil _) ?_
             refine AW.rK [6] ?_
             have hr := Option.some.inj h
             subst hr
             exact ⟨[(eBool false)], ⟨rfl, rfl, trivial⟩, rfl⟩
            ·refine AW.condF' _ rfl hc64 ?_
             refine AW.sK [2, 3, 4, 11, 12, 13, 14, 15, 16] ?_
             refine AW.seq_mid (fun ρ H => ∃ (x65 : Int), ρ = [(2, (eStr p2)), (3, (.ptr n4 0)), (4, (.ptr n5 0)), (11, (.fz 1 (t27.map eI64))), (12, (eI64 x41)), (13, (eI64 x42)), (14, (eI64 x65)), (15, (eI64 x44)), (16, (.ptr n52 0))] ∧ H = [(n4, (.mem (e27 p0))), (n5, (.mem (e41 p1))), (n52, (.mem (e37 (lget p0.f2 x44))))] ∧ bosketlaw17_GramTells_c2 k rec45 p0 p1 t27 x41 x42 x44 x65 = some r) ?_ ?_
             ·refine AW.seq ?_
              obtain ⟨b76, hq77, h⟩ := of_bind h
              refine AW.regM [(2, (eStr p2)), (3, (.ptr n4 0)), (4, (.ptr n5 0)), (11, (.fz 1 (t27.map eI64))), (12, (eI64 x41)), (13, (eI64 x42)), (14, (eI64 x43)), (15, (eI64 x44)), (16, (.ptr n52 0)), (129, (eBool b76))] [(n4, (.mem (e27 p0))), (n5, (.mem (e41 p1))), (n52, (.mem (e37 (lget p0.f2 x44))))] ?_ ?_
              ·refine AO.c (Calm.move rfl rfl) ?_
               refine AO.c (x := eBool (decide (x43 < (0 : Int)))) (Calm.int rfl rfl rfl rfl) ?_
               refine AO.c (Calm.move rfl rfl) ?_
               rcases of_ite hq77 with ⟨hc78, hq77⟩ | ⟨hc78, hq77⟩
               ·refine AO.cG (x := .ptr n52 1) rfl rfl (bD (decide_eq_true hc78)) (Calm.fldPtr rfl rfl Try.underlying37 rfl sz9 _ rfl) ?_
                refine AO.cG rfl rfl (bD (decide_eq_true hc78)) (Calm.load 2 rfl rfl rfl (At.cast (At.fldS (At.fld0 At.here)) rfl) ag9 sz9) ?_
                refine AO.cG rfl rfl (bD (decide_eq_true hc78)) (Calm.move rfl rfl) ?_
                refine AO.cG (x := eBool (decide (((lget p0.f2 x44).f1) = p2))) rfl rfl (bD (decide_eq_true hc78)) (Calm.str rfl rfl rfl rfl) ?_
                refine AO.c (Calm.pickT rfl (bD (decide_eq_true hc78)) rfl) ?_
                cases hq77
                refine AO.nilE ⟨rfl, rfl⟩ ?_ ?_
                · exact ⟨rfl, rfl, rfl, rfl, rfl, rfl, rfl, rfl, rfl, rfl, trivial⟩
                · exact (Sub.refl _)
               ·refine AO.sT rfl rfl (bD (decide_eq_false hc78)) ?_
                refine AO.sT rfl rfl (bD (decide_eq_false hc78)) ?_
                refine AO.sT rfl rfl (bD (decide_eq_false hc78)) ?_
                refine AO.sT rfl rfl (bD (decide_eq_false hc78)) ?_
                refine AO.c (Calm.pickF rfl (bD (decide_eq_false hc78)) rfl) ?_
                cases hq77
                refine AO.nilE ⟨rfl, rfl⟩ ?_ ?_
                · exact ⟨rfl, rfl, rfl, rfl, rfl, rfl, rfl, rfl, rfl, rfl, trivial⟩
                · exact (Sub.refl _)
              ·rcases of_ite h with ⟨hc79, h⟩ | ⟨hc79, h⟩
               ·refine AW.condT' _ rfl hc79 ?_
                refine AW.reg ?_
                refine AO.c (Calm.move rfl rfl) ?_
                refine AO.c (Calm.assign rfl rfl) ?_
                refine AO.nK [2, 3, 4, 11, 12, 13, 14, 15, 16] ?_
                exact ⟨x44, rfl, rfl, h⟩
               ·refine AW.condF' _ rfl hc79 ?_
                refine AW.sK [2, 3, 4, 11, 12, 13, 14, 15, 16] ?_
                exact ⟨x43, rfl, rfl, h⟩
             ·rintro _ _ ⟨x65, rfl, rfl, h⟩
              rw [bosketlaw17_GramTells_c2.eq_1] at h
              refine AW.seq ?_
              refine AW.sr ?_
              refine AO.c (x := .ptr n52 0) (Calm.fldPtr rfl rfl Try.underlying37 rfl sz3 _ rfl) ?_
              refine AO.c (Calm.load 2 rfl rfl rfl (At.cast (At.fld0 At.here) rfl) ag3 sz3) ?_
              refine AO.c (x := .ptr n5 1) (Calm.fldPtr rfl rfl Try.underlying41 rfl sz3 _ rfl) ?_
              refine AO.c (Calm.load 1 rfl rfl rfl (At.cast (At.fldS (At.fld0 At.here)) rfl) ag3 sz3) ?_
              refine AO.c (x := eBool (decide (((lget p0.f2 x44).f0) ≠ p1.f1))) (Calm.int rfl rfl rfl rfl) ?_
              refine AO.nK [2, 3, 4, 11, 12, 13, 14, 15, 16, 135] ?_
              rcases of_ite h with ⟨hc66, h⟩ | ⟨hc66, h⟩
              ·refine AW.condP _ rfl hc66 ?_
               refine AW.eH [2, 3, 4, 11, 12, 13, 14, 15] (H' := [(n4, (.mem (e27 p0))), (n5, (.mem (e41 p1)))]) (Sub.cons 0 rfl (Sub.cons 0 rfl (Sub.nil _))) ?_
               exact ⟨x41, x42, x65, rfl, rfl, h⟩
              ·refine AW.condN _ rfl hc66 ?_
               refine AW.sK [2, 3, 4, 11, 12, 13, 14, 15, 16] ?_
               refine AW.seq ?_
               refine AW.seq ?_
               obtain ⟨b67, hq68, h⟩ := of_bind h
               refine AW.regM [(2, (eStr p2)), (3, (.ptr n4 0)), (4, (.ptr n5 0)), (11, (.fz 1 (t27.map eI64))), (12, (eI64 x41)), (13, (eI64 x42)), (14, (eI64 x65)), (15, (eI64 x44)), (16, (.ptr n52 0)), (147, (eBool b67))] [(n4, (.mem (e27 p0))), (n5, (.mem (e41 p1))), (n52, (.mem (e37 (lget p0.f2 x44))))] ?_ ?_
               ·refine AO.c (Calm.move rfl rfl) ?_
                refine AO.c (Calm.move rfl rfl) ?_
                refine AO.c (Calm.lenL rfl rfl Try.underlying35) ?_
                refine AO.c (x := eBool (decide ((t27.length : Int) ≤ x41))) (Calm.int rfl rfl rfl rfl) ?_
                refine AO.c (Calm.move rfl rfl) ?_
                rcases of_ite hq68 with ⟨hc69, hq68⟩ | ⟨hc69, hq68⟩
                ·refine AO.sF rfl rfl (bD (decide_eq_true hc69)) ?_
                 refine AO.sF rfl rfl (bD (decide_eq_true hc69)) ?_
                 refine AO.sF rfl rfl (bD (decide_eq_true hc69)) ?_
                 refine AO.sF rfl rfl (bD (decide_eq_true hc69)) ?_
                 refine AO.sF rfl rfl (bD (decide_eq_true hc69)) ?_
                 refine AO.sF rfl rfl (bD (decide_eq_true hc69)) ?_
                 refine AO.c (Calm.pickT rfl (bD (decide_eq_true hc69)) rfl) ?_
                 cases hq68
                 refine AO.nilE ⟨rfl, rfl⟩ ?_ ?_
                 · exact ⟨rfl, rfl, rfl, rfl, rfl, rfl, rfl, rfl, rfl, rfl, trivial⟩
                 · exact (Sub.refl _)
                ·refine AO.cG rfl rfl (bD (decide_eq_false hc69)) (Calm.move rfl rfl) ?_
                 refine AO.cG rfl rfl (bD (decide_eq_false hc69)) (Calm.move rfl rfl) ?_
                 obtain ⟨hg70, hq68⟩ := of_guard hq68
                 refine AO.cG rfl rfl (bD (decide_eq_false hc69)) (Calm.idxL (f := eI64) rfl rfl rfl hg70 Try.underlying35 sz3) ?_
                 refine AO.cG rfl rfl (bD (decide_eq_false hc69)) (Calm.loadRp rfl rfl ag3 sz3) ?_
                 refine AO.cG rfl rfl (bD (decide_eq_false hc69)) (Calm.move rfl rfl) ?_
                 refine AO.cG (x := eBool (decide ((lget t27 x41) ≠ x44))) rfl rfl (bD (decide_eq_false hc69)) (Calm.int rfl rfl rfl rfl) ?_
                 refine AO.c (Calm.pickF rfl (bD (decide_eq_false hc69)) rfl) ?_
                 cases hq68
                 refine AO.nilE ⟨rfl, rfl⟩ ?_ ?_
                 · exact ⟨rfl, rfl, rfl, rfl, rfl, rfl, rfl, rfl, rfl, rfl, trivial⟩
                 · exact (Sub.refl _)
               ·rcases of_ite h with ⟨hc71, h⟩ | ⟨hc71, h⟩
                ·refine AW.condT' _ rfl hc71 ?_
                 refine AW.sr ?_
                 refine AO.c (Calm.assign rfl rfl) ?_
                 refine AO.nH [6] (H' := []) (Sub.nil _) ?_
                 refine AW.rK [6] ?_
                 have hr := Option.some.inj h
                 subst hr
                 exact ⟨[(eBool false)], ⟨rfl, rfl, trivial⟩, rfl⟩
                ·refine AW.condF' _ rfl hc71 ?_
                 refine AW.sK [2, 3, 4, 11, 12, 13, 14, 15, 16] ?_
                 refine AW.sr ?_
                 refine AO.c (Calm.move rfl rfl) ?_
                 refine AO.c (x := eI64 (w64 (x41 + (1 : Int)))) (Calm.int rfl rfl rfl rfl) ?_
                 refine AO.c (Calm.assign rfl rfl) ?_
                 refine AO.nK [2, 3, 4, 11, 12, 13, 14, 15, 16] ?_
                 refine AW.seq ?_
                 obtain ⟨b72, hq73, h⟩ := of_bind h
                 refine AW.regM [(2, (eStr p2)), (3, (.ptr n4 0)), (4, (.ptr n5 0)), (11, (.fz 1 (t27.map eI64))), (12, (eI64 (w64 (x41 + (1 : Int))))), (13, (eI64 x42)), (14, (eI64 x65)), (15, (eI64 x44)), (155, (eBool b72))] [(n4, (.mem (e27 p0))), (n5, (.mem (e41 p1)))] ?_ ?_
                 ·refine AO.c (Calm.move rfl rfl) ?_
                  refine AO.c (x := eBool (decide (x42 < (0 : Int)))) (Calm.int rfl rfl rfl rfl) ?_
                  refine AO.c (Calm.move rfl rfl) ?_
                  rcases of_ite hq73 with ⟨hc74, hq73⟩ | ⟨hc74, hq73⟩
                  ·refine AO.cG (x := .ptr n52 3) rfl rfl (bD (decide_eq_true hc74)) (Calm.fldPtr rfl rfl Try.underlying37 rfl sz4 _ rfl) ?_
                   refine AO.cG rfl rfl (bD (decide_eq_true hc74)) (Calm.load 2 rfl rfl rfl (At.cast (At.fldS (At.fldS (At.fldS (At.fld0 At.here)))) rfl) ag4 sz4) ?_
                   refine AO.c (Calm.pickT rfl (bD (decide_eq_true hc74)) rfl) ?_
                   cases hq73
                   refine AO.nilE ⟨rfl, rfl⟩ ?_ ?_
                   · exact ⟨rfl, rfl, rfl, rfl, rfl, rfl, rfl, rfl, rfl, trivial⟩
                   · exact (Sub.cons 0 rfl (Sub.cons 0 rfl (Sub.nil _)))
                  ·refine AO.sT rfl rfl (bD (decide_eq_false hc74)) ?_
                   refine AO.sT rfl rfl (bD (decide_eq_false hc74)) ?_
                   refine AO.c (Calm.pickF rfl (bD (decide_eq_false hc74)) rfl) ?_
                   cases hq73
                   refine AO.nilE ⟨rfl, rfl⟩ ?_ ?_
                   · exact ⟨rfl, rfl, rfl, rfl, rfl, rfl, rfl, rfl, rfl, trivial⟩
                   · exact (Sub.cons 0 rfl (Sub.cons 0 rfl (Sub.nil _)))
                 ·rcases of_ite h with ⟨hc75, h⟩ | ⟨hc75, h⟩
                  ·refine AW.condT' _ rfl hc75 ?_
                   refine AW.reg ?_
                   refine AO.c (Calm.move rfl rfl) ?_
                   refine AO.c (Calm.assign rfl rfl) ?_
                   refine AO.nK [2, 3, 4, 11, 12, 13, 14, 15] ?_
                   exact ⟨(w64 (x41 + (1 : Int))), x44, x65, rfl, rfl, h⟩
                  ·refine AW.condF' _ rfl hc75 ?_
                   refine AW.sK [2, 3, 4, 11, 12, 13, 14, 15] ?_
                   exact ⟨(w64 (x41 + (1 : Int))), x42, x65, rfl, rfl, h⟩
         ·rintro _ _ ⟨x48, x49, x50, rfl, rfl, h⟩
          rw [bosketlaw17_GramTells_c1.eq_1] at h
          refine AW.reg ?_
          refine AO.c (Calm.move rfl rfl) ?_
          refine AO.c (x := eI64 (w64 (x44 + (1 : Int)))) (Calm.int rfl rfl rfl rfl) ?_
          refine AO.c (Calm.assign rfl rfl) ?_
          refine AO.nK [2, 3, 4, 11, 12, 13, 14, 15] ?_
          exact ⟨kq46, Nat.lt_succ_self _, x48, x49, x50, (w64 (x44 + (1 : Int))), rfl, rfl, by rw [hrec45]; exact h⟩
        ·refine AW.condN _ rfl hc47 ?_
         refine AW.eK [2, 3, 4, 11, 12, 13, 14] ?_
         exact ⟨x41, x42, x43, rfl, rfl, h⟩
       ·rintro _ _ ⟨x28, x29, x30, rfl, rfl, h⟩
        rw [bosketlaw17_GramTells_c0.eq_1] at h
        refine AW.seq ?_
        obtain ⟨b31, hq32, h⟩ := of_bind h
        refine AW.regM [(6, (eBool b31))] [] ?_ ?_
        ·refine AO.c (Calm.move rfl rfl) ?_
         refine AO.c (Calm.move rfl rfl) ?_
         refine AO.c (Calm.lenL rfl rfl Try.underlying35) ?_
         refine AO.c (x := eBool (decide (x28 = (t27.length : Int)))) (Calm.int rfl rfl rfl rfl) ?_
         refine AO.c (Calm.move rfl rfl) ?_
         rcases of_ite hq32 with ⟨hc33, hq32⟩ | ⟨hc33, hq32⟩
         ·refine AO.cG rfl rfl (bD (decide_eq_true hc33)) (Calm.load 0 rfl rfl rfl (At.cast At.here rfl) ag27 sz27) ?_
          refine AO.cG (x := .ptr n5 1) rfl rfl (bD (decide_eq_true hc33)) (Calm.fldPtr rfl rfl Try.underlying41 rfl sz3 _ rfl) ?_
          refine AO.cG rfl rfl (bD (decide_eq_true hc33)) (Calm.load 1 rfl rfl rfl (At.cast (At.fldS (At.fld0 At.here)) rfl) ag3 sz3) ?_
          obtain ⟨t34, et34, hq32⟩ := of_bind hq32
          refine AO.callG 4 true 161 [(e27 p0), (eI64 p1.f1)] (eI64 t34) 165 rfl (by decide) ok24 rfl rfl (bD (decide_eq_true hc33)) rfl rfl ⟨rfl, rfl, rfl, rfl, trivial⟩ (gram_Paren_spec et34) ?_
          refine AO.cG rfl rfl (bD (decide_eq_true hc33)) (Calm.move rfl rfl) ?_
          refine AO.cG (x := eBool (decide (t34 = x29))) rfl rfl (bD (decide_eq_true hc33)) (Calm.int rfl rfl rfl rfl) ?_
          refine AO.c (Calm.pickT rfl (bD (decide_eq_true hc33)) rfl) ?_
          refine AO.c (Calm.move rfl rfl) ?_
          rcases of_ite hq32 with ⟨hc35, hq32⟩ | ⟨hc35, hq32⟩
          ·refine AO.cG rfl rfl (bD (decide_eq_true hc35)) (Calm.load 0 rfl rfl rfl (At.cast At.here rfl) ag27 sz27) ?_
           refine AO.cG rfl rfl (bD (decide_eq_true hc35)) (Calm.move rfl rfl) ?_
           obtain ⟨t36, et36, hq32⟩ := of_bind hq32
           refine AO.callG 12 true 169 [(e27 p0), (eStr p2)] (eI64 t36) 172 rfl (by decide) ok25 rfl rfl (bD (decide_eq_true hc35)) rfl rfl ⟨rfl, rfl, rfl, rfl, trivial⟩ (gram_Con_spec et36) ?_
           refine AO.cG rfl rfl (bD (decide_eq_true hc35)) (Calm.move rfl rfl) ?_
           refine AO.cG (x := eBool (decide (t36 = x30))) rfl rfl (bD (decide_eq_true hc35)) (Calm.int rfl rfl rfl rfl) ?_
           refine AO.c (Calm.pickT rfl (bD (decide_eq_true hc35)) rfl) ?_
           refine AO.c (Calm.move rfl rfl) ?_
           rcases of_ite hq32 with ⟨hc37, hq32⟩ | ⟨hc37, hq32⟩
           ·refine AO.cG rfl rfl (bD (decide_eq_true hc37)) (Calm.load 0 rfl rfl rfl (At.cast At.here rfl) ag27 sz27) ?_
            refine AO.cG (x := .ptr n4 2) rfl rfl (bD (decide_eq_true hc37)) (Calm.fldPtr rfl rfl Try.underlying27 rfl sz24 _ rfl) ?_
            refine AO.cG rfl rfl (bD (decide_eq_true hc37)) (Calm.load 0 rfl rfl rfl (At.cast (At.fldS (At.fldS (At.fld0 At.here))) rfl) ag24 sz24) ?_
            refine AO.cG rfl rfl (bD (decide_eq_true hc37)) (Calm.lenL rfl rfl Try.underlying24) ?_
            obtain ⟨t38, et38, hq32⟩ := of_bind hq32
            refine AO.callG 19 true 176 [(e27 p0), (eI64 (p0.f2.length : Int))] (eStr t38) 181 rfl (by decide) ok21 rfl rfl (bD (decide_eq_true hc37)) rfl rfl ⟨rfl, rfl, rfl, rfl, trivial⟩ (gram_Line_spec et38) ?_
            refine AO.cG (x := eBool (decide (t38 = (ByteArray.mk #[])))) rfl rfl (bD (decide_eq_true hc37)) (Calm.str rfl rfl rfl rfl) ?_
            refine AO.c (Calm.pickT rfl (bD (decide_eq_true hc37)) rfl) ?_
            refine AO.c (Calm.move rfl rfl) ?_
            rcases of_ite hq32 with ⟨hc39, hq32⟩ | ⟨hc39, hq32⟩
            ·refine AO.cG rfl rfl (bD (decide_eq_true hc39)) (Calm.load 0 rfl rfl rfl (At.cast At.here rfl) ag27 sz27) ?_
             obtain ⟨t40, et40, hq32⟩ := of_bind hq32
             refine AO.callG 27 true 184 [(e27 p0), (eI64 (-1 : Int))] (eStr t40) 186 rfl (by decide) ok21 rfl rfl (bD (decide_eq_true hc39)) rfl rfl ⟨rfl, rfl, rfl, rfl, trivial⟩ (gram_Line_spec et40) ?_
             refine AO.cG (x := eBool (decide (t40 = (ByteArray.mk #[])))) rfl rfl (bD (decide_eq_true hc39)) (Calm.str rfl rfl rfl rfl) ?_
             refine AO.c (Calm.pickT rfl (bD (decide_eq_true hc39)) rfl) ?_
             refine AO.c (Calm.assign rfl rfl) ?_
             cases hq32
             refine AO.nilE ⟨rfl, rfl⟩ ?_ ?_
             · exact ⟨rfl, trivial⟩
             · exact (Sub.nil _)
            ·refine AO.sT rfl rfl (bD (decide_eq_false hc39)) ?_
             refine AO.sT rfl rfl (bD (decide_eq_false hc39)) ?_
             refine AO.sT rfl rfl (bD (decide_eq_false hc39)) ?_
             refine AO.c (Calm.pickF rfl (bD (decide_eq_false hc39)) rfl) ?_
             refine AO.c (Calm.assign rfl rfl) ?_
             cases hq32
             refine AO.nilE ⟨rfl, rfl⟩ ?_ ?_
             · exact ⟨rfl, trivial⟩
             · exact (Sub.nil _)
           ·refine AO.sT rfl rfl (bD (decide_eq_false hc37)) ?_
            refine AO.sT rfl rfl (bD (decide_eq_false hc37)) ?_
            refine AO.sT rfl rfl (bD (decide_eq_false hc37)) ?_
            refine AO.sT rfl rfl (bD (decide_eq_false hc37)) ?_
            refine AO.sT rfl rfl (bD (decide_eq_false hc37)) ?_
            refine AO.sT rfl rfl (bD (decide_eq_false hc37)) ?_
            refine AO.c (Calm.pickF rfl (bD (decide_eq_false hc37)) rfl) ?_
            refine AO.c (Calm.move rfl rfl) ?_
            refine AO.sT rfl rfl rfl ?_
            refine AO.sT rfl rfl rfl ?_
            refine AO.sT rfl rfl rfl ?_
            refine AO.c (Calm.pickF rfl rfl rfl) ?_
            refine AO.c (Calm.assign rfl rfl) ?_
            cases hq32
            refine AO.nilE ⟨rfl, rfl⟩ ?_ ?_
            · exact ⟨rfl, trivial⟩
            · exact (Sub.nil _)
          ·refine AO.sT rfl rfl (bD (decide_eq_false hc35)) ?_
           refine AO.sT rfl rfl (bD (decide_eq_false hc35)) ?_
           refine AO.sT rfl rfl (bD (decide_eq_false hc35)) ?_
           refine AO.sT rfl rfl (bD (decide_eq_false hc35)) ?_
           refine AO.sT rfl rfl (bD (decide_eq_false hc35)) ?_
           refine AO.c (Calm.pickF rfl (bD (decide_eq_false hc35)) rfl) ?_
           refine AO.c (Calm.move rfl rfl) ?_
           refine AO.sT rfl rfl rfl ?_
           refine AO.sT rfl rfl rfl ?_
           refine AO.sT rfl rfl rfl ?_
           refine AO.sT rfl rfl rfl ?_
           refine AO.sT rfl rfl rfl ?_
           refine AO.sT rfl rfl rfl ?_
           refine AO.c (Calm.pickF rfl rfl rfl) ?_
           refine AO.c (Calm.move rfl rfl) ?_
           refine AO.sT rfl rfl rfl ?_
           refine AO.sT rfl rfl rfl ?_
           refine AO.sT rfl rfl rfl ?_
           refine AO.c (Calm.pickF rfl rfl rfl) ?_
           refine AO.c (Calm.assign rfl rfl) ?_
           cases hq32
           refine AO.nilE ⟨rfl, rfl⟩ ?_ ?_
           · exact ⟨rfl, trivial⟩
           · exact (Sub.nil _)
         ·refine AO.sT rfl rfl (bD (decide_eq_false hc33)) ?_
          refine AO.sT rfl rfl (bD (decide_eq_false hc33)) ?_
          refine AO.sT rfl rfl (bD (decide_eq_false hc33)) ?_
          refine AO.sT rfl rfl (bD (decide_eq_false hc33)) ?_
          refine AO.sT rfl rfl (bD (decide_eq_false hc33)) ?_
          refine AO.sT rfl rfl (bD (decide_eq_false hc33)) ?_
          refine AO.c (Calm.pickF rfl (bD (decide_eq_false hc33)) rfl) ?_
          refine AO.c (Calm.move rfl rfl) ?_
          refine AO.sT rfl rfl rfl ?_
          refine AO.sT rfl rfl rfl ?_
          refine AO.sT rfl rfl rfl ?_
          refine AO.sT rfl rfl rfl ?_
          refine AO.sT rfl rfl rfl ?_
          refine AO.c (Calm.pickF rfl rfl rfl) ?_
          refine AO.c (Calm.move rfl rfl) ?_
          refine AO.sT rfl rfl rfl ?_
          refine AO.sT rfl rfl rfl ?_
          refine AO.sT rfl rfl rfl ?_
          refine AO.sT rfl rfl rfl ?_
          refine AO.sT rfl rfl rfl ?_
          refine AO.sT rfl rfl rfl ?_
          refine AO.c (Calm.pickF rfl rfl rfl) ?_
          refine AO.c (Calm.move rfl rfl) ?_
          refine AO.sT rfl rfl rfl ?_
          refine AO.sT rfl rfl rfl ?_
          refine AO.sT rfl rfl rfl ?_
          refine AO.c (Calm.pickF rfl rfl rfl) ?_
          refine AO.c (Calm.assign rfl rfl) ?_
          cases hq32
          refine AO.nilE ⟨rfl, rfl⟩ ?_ ?_
          · exact ⟨rfl, trivial⟩
          · exact (Sub.nil _)
        ·refine AW.rK [6] ?_
         have hr := Option.some.inj h
         subst hr
         exact ⟨[(eBool b31)], ⟨rfl, rfl, trivial⟩, rfl⟩
end Go.Avl.T7
/- bosket/nfa.Union; printed by avmain.py. -/
namespace Go.Avl.T7
open Go Go.RowKit Go.Proofs Go.Avl
set_option linter.unusedVariables false
set_option maxRecDepth 100000
set_option maxHeartbeats 4000000
attribute [local irreducible] AW AO AQ Spec SpecH Calm

end Go.Avl.T7
/- bosket/byteset.Count; printed by avmain.py. -/
namespace Go.Avl.T7
open Go Go.RowKit Go.Proofs Go.Avl
set_option linter.unusedVariables false
set_option maxRecDepth 100000
set_option maxHeartbeats 4000000
attribute [local irreducible] AW AO AQ Spec SpecH Calm

end Go.Avl.T7
/- bosket/dfa.gapless; printed by avmain.py. -/
namespace Go.Avl.T7
open Go Go.RowKit Go.Proofs Go.Avl
set_option linter.unusedVariables false
set_option maxRecDepth 100000
set_option maxHeartbeats 4000000
attribute [local irreducible] AW AO AQ Spec SpecH Calm

end Go.Avl.T7
/- bosket/dfa.Right; printed by avmain.py. -/
namespace Go.Avl.T7
open Go Go.RowKit Go.Proofs Go.Avl
set_option linter.unusedVariables false
set_option maxRecDepth 100000
set_option maxHeartbeats 4000000
attribute [local irreducible] AW AO AQ Spec SpecH Calm

end Go.Avl.T7
/- bosket/dfa.Alive; printed by avmain.py. -/
namespace Go.Avl.T7
open Go Go.RowKit Go.Proofs Go.Avl
set_option linter.unusedVariables false
set_option maxRecDepth 100000
set_option maxHeartbeats 4000000
attribute [local irreducible] AW AO AQ Spec SpecH Calm

end Go.Avl.T7
/- slices.Clone[[]int,int]; printed by avmain.py. -/
namespace Go.Avl.T7
open Go Go.RowKit Go.Proofs Go.Avl
set_option linter.unusedVariables false
set_option maxRecDepth 100000
set_option maxHeartbeats 4000000
attribute [local irreducible] AW AO AQ Spec SpecH Calm

end Go.Avl.T7
/- bosket/dfa.Trim; printed by avmain.py. -/
namespace Go.Avl.T7
open Go Go.RowKit Go.Proofs Go.Avl
set_option linter.unusedVariables false
set_option maxRecDepth 100000
set_option maxHeartbeats 4000000
set_option linter.unusedSimpArgs false
attribute [local irreducible] AW AO AQ Spec SpecH Calm

end Go.Avl.T7
/- bosket/dfa.Order; printed by avmain.py. -/
namespace Go.Avl.T7
open Go Go.RowKit Go.Proofs Go.Avl
set_option linter.unusedVariables false
set_option maxRecDepth 100000
set_option maxHeartbeats 4000000
set_option linter.unusedSimpArgs false
attribute [local irreducible] AW AO AQ Spec SpecH Calm

end Go.Avl.T7
/- bosket/mini.blocks; printed by avmain.py. -/
namespace Go.Avl.T7
open Go Go.RowKit Go.Proofs Go.Avl
set_option linter.unusedVariables false
set_option maxRecDepth 100000
set_option maxHeartbeats 4000000
attribute [local irreducible] AW AO AQ Spec SpecH Calm

end Go.Avl.T7
/- bosket/mini.word; printed by avmain.py. -/
namespace Go.Avl.T7
open Go Go.RowKit Go.Proofs Go.Avl
set_option linter.unusedVariables false
set_option maxRecDepth 100000
set_option maxHeartbeats 4000000
attribute [local irreducible] AW AO AQ Spec SpecH Calm

end Go.Avl.T7
/- bosket/mini.row; printed by avmain.py. -/
namespace Go.Avl.T7
open Go Go.RowKit Go.Proofs Go.Avl
set_option linter.unusedVariables false
set_option maxRecDepth 100000
set_option maxHeartbeats 4000000
attribute [local irreducible] AW AO AQ Spec SpecH Calm

end Go.Avl.T7
/- bosket/mini.split; printed by avmain.py. -/
namespace Go.Avl.T7
open Go Go.RowKit Go.Proofs Go.Avl
set_option linter.unusedVariables false
set_option maxRecDepth 100000
set_option maxHeartbeats 4000000
attribute [local irreducible] AW AO AQ Spec SpecH Calm

end Go.Avl.T7
/- bosket/mini.Blocks; printed by avmain.py. -/
namespace Go.Avl.T7
open Go Go.RowKit Go.Proofs Go.Avl
set_option linter.unusedVariables false
set_option maxRecDepth 100000
set_option maxHeartbeats 4000000
attribute [local irreducible] AW AO AQ Spec SpecH Calm

end Go.Avl.T7
/- bosket/mini.column; printed by avmain.py. -/
namespace Go.Avl.T7
open Go Go.RowKit Go.Proofs Go.Avl
set_option linter.unusedVariables false
set_option maxRecDepth 100000
set_option maxHeartbeats 4000000
attribute [local irreducible] AW AO AQ Spec SpecH Calm

end Go.Avl.T7
/- bosket/mini.classes; printed by avmain.py. -/
namespace Go.Avl.T7
open Go Go.RowKit Go.Proofs Go.Avl
set_option linter.unusedVariables false
set_option maxRecDepth 100000
set_option maxHeartbeats 4000000
attribute [local irreducible] AW AO AQ Spec SpecH Calm

end Go.Avl.T7
/- bosket/mini.Of; printed by avmain.py. -/
namespace Go.Avl.T7
open Go Go.RowKit Go.Proofs Go.Avl
set_option linter.unusedVariables false
set_option maxRecDepth 100000
set_option maxHeartbeats 4000000
set_option linter.unusedSimpArgs false
attribute [local irreducible] AW AO AQ Spec SpecH Calm

end Go.Avl.T7
/- bosket/rules.Machine; printed by avmain.py. -/
namespace Go.Avl.T7
open Go Go.RowKit Go.Proofs Go.Avl
set_option linter.unusedVariables false
set_option maxRecDepth 100000
set_option maxHeartbeats 4000000
attribute [local irreducible] AW AO AQ Spec SpecH Calm

end Go.Avl.T7
/- bosket/bosketref08.Step; printed by avmain.py. -/
namespace Go.Avl.T7
open Go Go.RowKit Go.Proofs Go.Avl
set_option linter.unusedVariables false
set_option maxRecDepth 100000
set_option maxHeartbeats 4000000
attribute [local irreducible] AW AO AQ Spec SpecH Calm

end Go.Avl.T7
/- bosket/bosketref08.Run; printed by avmain.py. -/
namespace Go.Avl.T7
open Go Go.RowKit Go.Proofs Go.Avl
set_option linter.unusedVariables false
set_option maxRecDepth 100000
set_option maxHeartbeats 4000000
attribute [local irreducible] AW AO AQ Spec SpecH Calm

end Go.Avl.T7
/- bosket/bosketref08.Mark; printed by avmain.py. -/
namespace Go.Avl.T7
open Go Go.RowKit Go.Proofs Go.Avl
set_option linter.unusedVariables false
set_option maxRecDepth 100000
set_option maxHeartbeats 4000000
attribute [local irreducible] AW AO AQ Spec SpecH Calm

end Go.Avl.T7
/- bosket/dfa.Reached; printed by avmain.py. -/
namespace Go.Avl.T7
open Go Go.RowKit Go.Proofs Go.Avl
set_option linter.unusedVariables false
set_option maxRecDepth 100000
set_option maxHeartbeats 4000000
attribute [local irreducible] AW AO AQ Spec SpecH Calm

end Go.Avl.T7
/- bosket/rules.Hidden; printed by avmain.py. -/
namespace Go.Avl.T7
open Go Go.RowKit Go.Proofs Go.Avl
set_option linter.unusedVariables false
set_option maxRecDepth 100000
set_option maxHeartbeats 4000000
attribute [local irreducible] AW AO AQ Spec SpecH Calm

end Go.Avl.T7
/- bosket/bosketlaw11.awake; printed by avmain.py. -/
namespace Go.Avl.T7
open Go Go.RowKit Go.Proofs Go.Avl
set_option linter.unusedVariables false
set_option maxRecDepth 100000
set_option maxHeartbeats 4000000
attribute [local irreducible] AW AO AQ Spec SpecH Calm

end Go.Avl.T7
/- slices.Equal[[]bosket/api.Rule,bosket/api.Rule]; printed by avmain.py. -/
namespace Go.Avl.T7
open Go Go.RowKit Go.Proofs Go.Avl
set_option linter.unusedVariables false
set_option maxRecDepth 100000
set_option maxHeartbeats 4000000
attribute [local irreducible] AW AO AQ Spec SpecH Calm

end Go.Avl.T7
/- slices.Equal[[]string,string]; printed by avmain.py. -/
namespace Go.Avl.T7
open Go Go.RowKit Go.Proofs Go.Avl
set_option linter.unusedVariables false
set_option maxRecDepth 100000
set_option maxHeartbeats 4000000
attribute [local irreducible] AW AO AQ Spec SpecH Calm

end Go.Avl.T7
/- slices.Equal[[]bosket/api.Sym,bosket/api.Sym]; printed by avmain.py. -/
namespace Go.Avl.T7
open Go Go.RowKit Go.Proofs Go.Avl
set_option linter.unusedVariables false
set_option maxRecDepth 100000
set_option maxHeartbeats 4000000
attribute [local irreducible] AW AO AQ Spec SpecH Calm

end Go.Avl.T7
/- slices.Equal[[]int,int]; printed by avmain.py. -/
namespace Go.Avl.T7
open Go Go.RowKit Go.Proofs Go.Avl
set_option linter.unusedVariables false
set_option maxRecDepth 100000
set_option maxHeartbeats 4000000
attribute [local irreducible] AW AO AQ Spec SpecH Calm

end Go.Avl.T7
/- bosket/gram.sameProd; printed by avmain.py. -/
namespace Go.Avl.T7
open Go Go.RowKit Go.Proofs Go.Avl
set_option linter.unusedVariables false
set_option maxRecDepth 100000
set_option maxHeartbeats 4000000
attribute [local irreducible] AW AO AQ Spec SpecH Calm

end Go.Avl.T7
/- slices.EqualFunc[[]bosket/api.Prod,[]bosket/api.Prod,bosket/api.Prod,bosket/api.Prod]; printed by avmain.py. -/
namespace Go.Avl.T7
open Go Go.RowKit Go.Proofs Go.Avl
set_option linter.unusedVariables false
set_option maxRecDepth 100000
set_option maxHeartbeats 4000000
attribute [local irreducible] AW AO AQ Spec SpecH Calm

end Go.Avl.T7
/- bosket/gram.sameLevel; printed by avmain.py. -/
namespace Go.Avl.T7
open Go Go.RowKit Go.Proofs Go.Avl
set_option linter.unusedVariables false
set_option maxRecDepth 100000
set_option maxHeartbeats 4000000
attribute [local irreducible] AW AO AQ Spec SpecH Calm

end Go.Avl.T7
/- slices.EqualFunc[[]bosket/api.Level,[]bosket/api.Level,bosket/api.Level,bosket/api.Level]; printed by avmain.py. -/
namespace Go.Avl.T7
open Go Go.RowKit Go.Proofs Go.Avl
set_option linter.unusedVariables false
set_option maxRecDepth 100000
set_option maxHeartbeats 4000000
attribute [local irreducible] AW AO AQ Spec SpecH Calm

end Go.Avl.T7
/- bosket/gram.Same; printed by avmain.py. -/
namespace Go.Avl.T7
open Go Go.RowKit Go.Proofs Go.Avl
set_option linter.unusedVariables false
set_option maxRecDepth 100000
set_option maxHeartbeats 4000000
attribute [local irreducible] AW AO AQ Spec SpecH Calm

end Go.Avl.T7
/- bosket/bosketref17.same; printed by avmain.py. -/
namespace Go.Avl.T7
open Go Go.RowKit Go.Proofs Go.Avl
set_option linter.unusedVariables false
set_option maxRecDepth 100000
set_option maxHeartbeats 4000000
attribute [local irreducible] AW AO AQ Spec SpecH Calm

end Go.Avl.T7
/- bosket/bosketref17.sameProd; printed by avmain.py. -/
namespace Go.Avl.T7
open Go Go.RowKit Go.Proofs Go.Avl
set_option linter.unusedVariables false
set_option maxRecDepth 100000
set_option maxHeartbeats 4000000
attribute [local irreducible] AW AO AQ Spec SpecH Calm

end Go.Avl.T7
/- bosket/bosketref17.Same; printed by avmain.py. -/
namespace Go.Avl.T7
open Go Go.RowKit Go.Proofs Go.Avl
set_option linter.unusedVariables false
set_option maxRecDepth 100000
set_option maxHeartbeats 4000000
attribute [local irreducible] AW AO AQ Spec SpecH Calm

end Go.Avl.T7
