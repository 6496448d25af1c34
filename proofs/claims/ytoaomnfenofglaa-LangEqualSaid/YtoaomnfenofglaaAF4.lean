/- Parts: T5f78, T5f44, T5f45, T5f74, T5f42, T5f41, T5f46. -/
import Derived.Test.YtoaomnfenofglaaAF1
import Derived.Test.YtoaomnfenofglaaAF3
/- bosket/lang.Pair; printed by avmain.py. -/
namespace Go.Avl.T5
open Go Go.RowKit Go.Proofs Go.Avl
set_option linter.unusedVariables false
set_option maxRecDepth 100000
set_option maxHeartbeats 4000000
set_option linter.unusedSimpArgs false
attribute [local irreducible] AW AO AQ Spec SpecH Calm

def lang_Pair_c0 (k : Nat) (t19 : (Vector Int 256)) (x25 : (List (List Int))) (x27 : (List Int)) : Option (S30 × Int) :=
  some ((S30.mk t19 x25 x27), (0 : Int))
def lang_Pair_c1 (k : Nat) (rec36 : ((List (List Int)) → (List Int) → (List S128) → (List (S128 × Int)) → Int → Option (S30 × Int))) (x35 : Int) (x40 : (List (List Int))) (x42 : (List Int)) (x44 : (List S128)) (x45 : (List (S128 × Int))) : Option (S30 × Int) :=
  rec36 x40 x42 x44 x45 (w64 (x35 + (1 : Int)))
def lang_Pair_c2 (k : Nat) (rec36 : ((List (List Int)) → (List Int) → (List S128) → (List (S128 × Int)) → Int → Option (S30 × Int))) (x29 : (List (List Int))) (x31 : (List Int)) (x35 : Int) (t51 : Int) (x56 : (List S128)) (x57 : (List (S128 × Int))) (x59 : (List Int)) : Option (S30 × Int) :=
  if (x29 ++ ([x59] : List (List Int))).length * 24 ≤ 140737488355328 then lang_Pair_c1 k rec36 x35 (x29 ++ ([x59] : List (List Int))) (x31 ++ ([t51] : List Int)) x56 x57
  else none
def lang_Pair_c3 (k : Nat) (rec69 : ((List S128) → (List (S128 × Int)) → (List Int) → Int → Option (S30 × Int))) (x68 : Int) (x73 : (List S128)) (x74 : (List (S128 × Int))) (x76 : (List Int)) : Option (S30 × Int) :=
  rec69 x73 x74 x76 (w64 (x68 + (1 : Int)))
def lang_Pair_c4 (k : Nat) (rec69 : ((List S128) → (List (S128 × Int)) → (List Int) → Int → Option (S30 × Int))) (x67 : (List Int)) (x68 : Int) (x83 : (List S128)) (x84 : (List (S128 × Int))) (x85 : Int) : Option (S30 × Int) :=
  if (x67 ++ ([x85] : List Int)).length * 8 ≤ 140737488355328 then lang_Pair_c3 k rec69 x68 x83 x84 (x67 ++ ([x85] : List Int))
  else none
def lang_Pair_l5 (k : Nat) (rec36 : ((List (List Int)) → (List Int) → (List S128) → (List (S128 × Int)) → Int → Option (S30 × Int))) (p1 : S30) (p2 : S30) (t19 : (Vector Int 256)) (x29 : (List (List Int))) (x31 : (List Int)) (x33 : (List S128)) (x35 : Int) (t51 : Int) : Nat → (List S128) → (List (S128 × Int)) → (List Int) → Int → Option (S30 × Int)
  | 0, _, _, _, _ => none
  | j + 1, x64, x65, x67, x68 =>
    if x68 < (256 : Int) then if 0 ≤ x68 ∧ x68 < (256 : Int) then if (w64 (vget t19 x68)) ≠ (x67.length : Int) then lang_Pair_c3 k (lang_Pair_l5 k rec36 p1 p2 t19 x29 x31 x33 x35 t51 j) x68 x64 x65 x67
    else (dfa_Step k p1 ((lget x33 x35).f0) (w8 x68)).bind fun t79 =>
    (dfa_Step k p2 ((lget x33 x35).f1) (w8 x68)).bind fun t80 =>
    if (!((mget x65 (S128.mk t79 t80)).isSome)) = true then if (x64 ++ ([(S128.mk t79 t80)] : List S128)).length * 16 ≤ 140737488355328 then lang_Pair_c4 k (lang_Pair_l5 k rec36 p1 p2 t19 x29 x31 x33 x35 t51 j) x67 x68 (x64 ++ ([(S128.mk t79 t80)] : List S128)) (mput x65 (S128.mk t79 t80) (x64.length : Int)) (x64.length : Int)
    else none
    else lang_Pair_c4 k (lang_Pair_l5 k rec36 p1 p2 t19 x29 x31 x33 x35 t51 j) x67 x68 x64 x65 ((mget x65 (S128.mk t79 t80)).getD (0 : Int))
    else none
    else lang_Pair_c2 k rec36 x29 x31 x35 t51 x64 x65 x67
def lang_Pair_l6 (k : Nat) (p0 : Int) (p1 : S30) (p2 : S30) (t19 : (Vector Int 256)) : Nat → (List (List Int)) → (List Int) → (List S128) → (List (S128 × Int)) → Int → Option (S30 × Int)
  | 0, _, _, _, _, _ => none
  | j + 1, x29, x31, x33, x34, x35 =>
    if x35 < (x33.length : Int) then if (2000 : Int) < (x33.length : Int) then some ((S30.mk (Vector.replicate 256 (0 : Int)) ([] : List (List Int)) ([] : List Int)), (6 : Int))
    else if 0 ≤ x35 ∧ x35 < (x33.length : Int) then (dfa_Mark k p1 ((lget x33 x35).f0)).bind fun t49 =>
    (dfa_Mark k p2 ((lget x33 x35).f1)).bind fun t50 =>
    (lang_both k p0 (decide ((0 : Int) ≤ t49)) (decide ((0 : Int) ≤ t50))).bind fun t51 =>
    if (x31 ++ ([t51] : List Int)).length * 8 ≤ 140737488355328 then lang_Pair_l5 k (lang_Pair_l6 k p0 p1 p2 t19 j) p1 p2 t19 x29 x31 x33 x35 t51 k x33 x34 ([] : List Int) (0 : Int)
    else none
    else none
    else lang_Pair_c0 k t19 x29 x31
def lang_Pair_c7 (k : Nat) (p0 : Int) (p1 : S30) (p2 : S30) (x18 : (List (Vector Int 4))) : Option (S30 × Int) :=
  (byteset_Classes k x18).bind fun t19 =>
  if 0 ≤ (0 : Int) ∧ (0 : Int) < (([(S128.mk (0 : Int) (0 : Int))] : List S128).length : Int) then lang_Pair_l6 k p0 p1 p2 t19 k ([] : List (List Int)) ([] : List Int) ([(S128.mk (0 : Int) (0 : Int))] : List S128) (mput ([] : List (S128 × Int)) (lget ([(S128.mk (0 : Int) (0 : Int))] : List S128) (0 : Int)) (0 : Int)) (0 : Int)
  else none
def lang_Pair_l8 (k : Nat) (p0 : Int) (p1 : S30) (p2 : S30) (t96 : Int) : Nat → (List (Vector Int 4)) → Int → Option (S30 × Int)
  | 0, _, _ => none
  | j + 1, x98, x99 =>
    if x99 < t96 then (lang_class k p2 x99).bind fun t103 =>
    if (x98 ++ ([t103] : List (Vector Int 4))).length * 32 ≤ 140737488355328 then (lang_Pair_l8 k p0 p1 p2 t96 j) (x98 ++ ([t103] : List (Vector Int 4))) (w64 (x99 + (1 : Int)))
    else none
    else lang_Pair_c7 k p0 p1 p2 x98
def lang_Pair_c9 (k : Nat) (p0 : Int) (p1 : S30) (p2 : S30) (x16 : (List (Vector Int 4))) : Option (S30 × Int) :=
  (byteset_Count k p2.f0).bind fun t96 =>
  lang_Pair_l8 k p0 p1 p2 t96 k x16 (0 : Int)
def lang_Pair_l10 (k : Nat) (p0 : Int) (p1 : S30) (p2 : S30) (t107 : Int) : Nat → (List (Vector Int 4)) → Int → Option (S30 × Int)
  | 0, _, _ => none
  | j + 1, x109, x110 =>
    if x110 < t107 then (lang_class k p1 x110).bind fun t114 =>
    if (x109 ++ ([t114] : List (Vector Int 4))).length * 32 ≤ 140737488355328 then (lang_Pair_l10 k p0 p1 p2 t107 j) (x109 ++ ([t114] : List (Vector Int 4))) (w64 (x110 + (1 : Int)))
    else none
    else lang_Pair_c9 k p0 p1 p2 x109
def lang_Pair (k : Nat) (p0 : Int) (p1 : S30) (p2 : S30) : Option (S30 × Int) :=
  Option.bind (α := Bool) ((dfa_Right k p1).bind fun t9 =>
  if (!t9) = true then some (true)
  else (dfa_Right k p2).bind fun t11 =>
  if (!t11) = true then some (true)
  else if p0 < (0 : Int) then some (true)
  else some (decide ((3 : Int) < p0))) fun b7 =>
  if b7 = true then some ((S30.mk (Vector.replicate 256 (0 : Int)) ([] : List (List Int)) ([] : List Int)), (1 : Int))
  else (byteset_Count k p1.f0).bind fun t107 =>
  lang_Pair_l10 k p0 p1 p2 t107 k ([] : List (Vector Int 4)) (0 : Int)
theorem lang_Pair_spec {k : Nat} {p0 : Int} {p1 : S30} {p2 : S30} {r : (S30 × Int)} (h : lang_Pair k p0 p1 p2 = some r) : Spec Try.prog 78 [(eI64 p0), (e30 p1), (e30 p2)] (.tup [(e30 r.1), (eI64 r.2)]) := by
  rw [lang_Pair.eq_1] at h
  refine Spec.intro (res := [.cell 6 30, .tmp 7]) Try.func78 rfl rfl rfl (Nat.le_of_ble_eq_true rfl) ?_
  refine AW.sr ?_
  refine AO.box rfl 4 rfl (by decide) rfl rfl rfl fun n4 => ?_
  refine AO.box rfl 5 rfl (by decide) rfl rfl rfl fun n5 => ?_
  refine AO.alloc rfl 6 rfl (by decide) rfl zr30 lay30 fun n6 => ?_
  refine AO.c (Calm.assign rfl rfl) ?_
  refine AO.nH [0, 4, 5, 6] (H' := [(n4, (.mem (e30 p1))), (n5, (.mem (e30 p2))), (n6, (.mem (.st [(256, (.ar 1 ((Vector.replicate 256 (0 : Int)).toList.map eU8))), (1, (.fl (.slice none 0 0))), (1, (.fl (.slice none 0 0)))])))]) (Sub.cons 2 rfl (Sub.cons 1 rfl (Sub.cons 0 rfl (Sub.nil _)))) ?_
  refine AW.seq ?_
  refine AW.seq ?_
  obtain ⟨b7, hq8, h⟩ := of_bind h
  refine AW.regM [(0, (eI64 p0)), (4, (.ptr n4 0)), (5, (.ptr n5 0)), (6, (.ptr n6 0)), (36, (eBool b7))] [(n4, (.mem (e30 p1))), (n5, (.mem (e30 p2))), (n6, (.mem (.st [(256, (.ar 1 ((Vector.replicate 256 (0 : Int)).toList.map eU8))), (1, (.fl (.slice none 0 0))), (1, (.fl (.slice none 0 0)))])))] ?_ ?_
  ·refine AO.c (Calm.load 0 rfl rfl rfl (At.cast At.here rfl) ag30 sz30) ?_
   obtain ⟨t9, et9, hq8⟩ := of_bind hq8
   refine AO.callS [(e30 p1)] (eBool t9) 22 rfl (by decide) ok64 rfl rfl rfl ⟨rfl, rfl, trivial⟩ (dfa_Right_spec et9) ?_
   refine AO.c (Calm.not rfl rfl) ?_
   refine AO.c (Calm.move rfl rfl) ?_
   rcases of_ite hq8 with ⟨hc10, hq8⟩ | ⟨hc10, hq8⟩
   ·refine AO.sF rfl rfl (bD hc10) ?_
    refine AO.sF rfl rfl (bD hc10) ?_
    refine AO.sF rfl rfl (bD hc10) ?_
    refine AO.c (Calm.pickT rfl (bD hc10) rfl) ?_
    refine AO.c (Calm.move rfl rfl) ?_
    refine AO.sF rfl rfl rfl ?_
    refine AO.sF rfl rfl rfl ?_
    refine AO.c (Calm.pickT rfl rfl rfl) ?_
    refine AO.c (Calm.move rfl rfl) ?_
    refine AO.sF rfl rfl rfl ?_
    refine AO.sF rfl rfl rfl ?_
    refine AO.c (Calm.pickT rfl rfl rfl) ?_
    cases hq8
    refine AO.nilE ⟨rfl, rfl⟩ ?_ ?_
    · exact ⟨rfl, rfl, rfl, rfl, rfl, trivial⟩
    · exact (Sub.refl _)
   ·refine AO.cG rfl rfl (bD (eq_false_of_ne_true hc10)) (Calm.load 1 rfl rfl rfl (At.cast At.here rfl) ag30 sz30) ?_
    obtain ⟨t11, et11, hq8⟩ := of_bind hq8
    refine AO.callG 3 false 24 [(e30 p2)] (eBool t11) 26 rfl (by decide) ok64 rfl rfl (bD (eq_false_of_ne_true hc10)) rfl rfl ⟨rfl, rfl, trivial⟩ (dfa_Right_spec et11) ?_
    refine AO.cG rfl rfl (bD (eq_false_of_ne_true hc10)) (Calm.not rfl rfl) ?_
    refine AO.c (Calm.pickF rfl (bD (eq_false_of_ne_true hc10)) rfl) ?_
    refine AO.c (Calm.move rfl rfl) ?_
    rcases of_ite hq8 with ⟨hc12, hq8⟩ | ⟨hc12, hq8⟩
    ·refine AO.sF rfl rfl (bD hc12) ?_
     refine AO.sF rfl rfl (bD hc12) ?_
     refine AO.c (Calm.pickT rfl (bD hc12) rfl) ?_
     refine AO.c (Calm.move rfl rfl) ?_
     refine AO.sF rfl rfl rfl ?_
     refine AO.sF rfl rfl rfl ?_
     refine AO.c (Calm.pickT rfl rfl rfl) ?_
     cases hq8
     refine AO.nilE ⟨rfl, rfl⟩ ?_ ?_
     · exact ⟨rfl, rfl, rfl, rfl, rfl, trivial⟩
     · exact (Sub.refl _)
    ·refine AO.cG rfl rfl (bD (eq_false_of_ne_true hc12)) (Calm.move rfl rfl) ?_
     refine AO.cG (x := eBool (decide (p0 < (0 : Int)))) rfl rfl (bD (eq_false_of_ne_true hc12)) (Calm.int rfl rfl rfl rfl) ?_
     refine AO.c (Calm.pickF rfl (bD (eq_false_of_ne_true hc12)) rfl) ?_
     refine AO.c (Calm.move rfl rfl) ?_
     rcases of_ite hq8 with ⟨hc13, hq8⟩ | ⟨hc13, hq8⟩
     ·refine AO.sF rfl rfl (bD (decide_eq_true hc13)) ?_
      refine AO.sF rfl rfl (bD (decide_eq_true hc13)) ?_
      refine AO.c (Calm.pickT rfl (bD (decide_eq_true hc13)) rfl) ?_
      cases hq8
      refine AO.nilE ⟨rfl, rfl⟩ ?_ ?_
      · exact ⟨rfl, rfl, rfl, rfl, rfl, trivial⟩
      · exact (Sub.refl _)
     ·refine AO.cG rfl rfl (bD (decide_eq_false hc13)) (Calm.move rfl rfl) ?_
      refine AO.cG (x := eBool (decide ((3 : Int) < p0))) rfl rfl (bD (decide_eq_false hc13)) (Calm.int rfl rfl rfl rfl) ?_
      refine AO.c (Calm.pickF rfl (bD (decide_eq_false hc13)) rfl) ?_
      cases hq8
      refine AO.nilE ⟨rfl, rfl⟩ ?_ ?_
      · exact ⟨rfl, rfl, rfl, rfl, rfl, trivial⟩
      · exact (Sub.refl _)
  ·rcases of_ite h with ⟨hc14, h⟩ | ⟨hc14, h⟩
   ·refine AW.condT' _ rfl hc14 ?_
    refine AW.sr ?_
    refine AO.c (x := .st [(256, (.ar 1 ((Vector.replicate 256 (0 : Int)).toList.map eU8))), (1, (.fl (.slice none 0 0))), (1, (.fl (.slice none 0 0)))]) (Calm.build (qs := []) rfl trivial Try.underlying30 rfl zr30 lay30 .nil rfl) ?_
    refine AO.store (X' := (.st [(256, (.ar 1 ((Vector.replicate 256 (0 : Int)).toList.map eU8))), (1, (.fl (.slice none 0 0))), (1, (.fl (.slice none 0 0)))])) 2 rfl rfl rfl rfl rfl rfl (Put.cast Put.here rfl) rfl rfl sz30 rfl ?_
    refine AO.c (Calm.assign rfl rfl) ?_
    refine AO.nH [6, 7] (H' := [(n6, (.mem (.st [(256, (.ar 1 ((Vector.replicate 256 (0 : Int)).toList.map eU8))), (1, (.fl (.slice none 0 0))), (1, (.fl (.slice none 0 0)))])))]) (Sub.cons 2 rfl (Sub.nil _)) ?_
    refine AW.coeFld (X' := (.st [(256, (.ar 1 ((Vector.replicate 256 (0 : Int)).toList.map eU8))), (1, (.fz 1 (([] : List (List Int)).map e25))), (1, (.fl (.slice none 0 0)))])) 0 rfl (Put.cast (Put.fldS (Put.fld0 Put.here)) rfl) rfl (nil_fz 1) rfl rfl ?_
    refine AW.coeFld (X' := (.st [(256, (.ar 1 ((Vector.replicate 256 (0 : Int)).toList.map eU8))), (1, (.fz 1 (([] : List (List Int)).map e25))), (1, (.fz 1 (([] : List Int).map eI64)))])) 0 rfl (Put.cast (Put.fldS (Put.fldS (Put.fld0 Put.here))) rfl) rfl (nil_fz 1) rfl rfl ?_
    refine AW.rK [6, 7] ?_
    have hr := Option.some.inj h
    subst hr
    exact ⟨[(e30 (S30.mk (Vector.replicate 256 (0 : Int)) ([] : List (List Int)) ([] : List Int))), (eI64 (1 : Int))], ⟨⟨_, 0, rfl, rfl, ag30, sz30⟩, rfl, rfl, trivial⟩, rfl⟩
   ·refine AW.condF' _ rfl hc14 ?_
    refine AW.sK [0, 4, 5, 6] ?_
    refine AW.sr ?_
    refine AO.c (Calm.assign rfl rfl) ?_
    refine AO.nK [0, 4, 5, 6, 8] ?_
    refine AW.seq_mid (fun ρ H => ∃ (n15 : Nat) (x16 : (List (Vector Int 4))), ρ = [(0, (eI64 p0)), (4, (.ptr n4 0)), (5, (.ptr n5 0)), (6, (.ptr n6 0)), (8, (.own n15 0 x16.length))] ∧ H = [(n4, (.mem (e30 p1))), (n5, (.mem (e30 p2))), (n6, (.mem (.st [(256, (.ar 1 ((Vector.replicate 256 (0 : Int)).toList.map eU8))), (1, (.fl (.slice none 0 0))), (1, (.fl (.slice none 0 0)))]))), (n15, (.mem (.ar 4 (x16.map e41))))] ∧ lang_Pair_c9 k p0 p1 p2 x16 = some r) ?_ ?_
    ·refine AW.sr ?_
     refine AO.c (x := .ptr n4 0) (Calm.fldPtr rfl rfl Try.underlying30 rfl sz27 _ rfl) ?_
     refine AO.c (Calm.load 0 rfl rfl rfl (At.cast (At.fld0 At.here) rfl) ag27 (by rw [sz27]; simp [AV.size])) ?_
     obtain ⟨t107, et107, h⟩ := of_bind h
     refine AO.callS [(.ar 1 (p1.f0.toList.map eU8))] (eI64 t107) 40 rfl (by decide) ok90 rfl rfl rfl ⟨rfl, rfl, trivial⟩ (byteset_Count_spec et107) ?_
     refine AO.c (Calm.move rfl rfl) ?_
     refine AO.nK [0, 4, 5, 6, 8, 40, 41] ?_
     refine AW.block ?_
     refine AW.nilOwn 8 4 rfl fun n118 => ?_
     refine AW.wH [0, 4, 5, 6, 8, 40, 41] (H' := [(n4, (.mem (e30 p1))), (n5, (.mem (e30 p2))), (n6, (.mem (.st [(256, (.ar 1 ((Vector.replicate 256 (0 : Int)).toList.map eU8))), (1, (.fl (.slice none 0 0))), (1, (.fl (.slice none 0 0)))]))), (n118, (.mem (.ar 4 (([] : List (Vector Int 4)).map e41))))]) (Sub.cons 1 rfl (Sub.cons 1 rfl (Sub.cons 1 rfl (Sub.cons 0 rfl (Sub.nil _))))) ?_
     refine AW.loop (fun kq ρ H => ∃ (n108 : Nat) (x109 : (List (Vector Int 4))) (x110 : Int), ρ = [(0, (eI64 p0)), (4, (.ptr n4 0)), (5, (.ptr n5 0)), (6, (.ptr n6 0)), (8, (.own n108 0 x109.length)), (40, (eI64 t107)), (41, (eI64 x110))] ∧ H = [(n4, (.mem (e30 p1))), (n5, (.mem (e30 p2))), (n6, (.mem (.st [(256, (.ar 1 ((Vector.replicate 256 (0 : Int)).toList.map eU8))), (1, (.fl (.slice none 0 0))), (1, (.fl (.slice none 0 0)))]))), (n108, (.mem (.ar 4 (x109.map e41))))] ∧ lang_Pair_l10 k p0 p1 p2 t107 kq x109 x110 = some r) k ⟨n118, ([] : List (Vector Int 4)), (0 : Int), rfl, rfl, h⟩ ?_
     rintro kq112 _ _ ⟨n108, x109, x110, rfl, rfl, h⟩
     cases kq112 with
     | zero => rw [lang_Pair_l10.eq_1] at h; cases h
     | succ kq112 =>
     rw [lang_Pair_l10.eq_2] at h
     generalize hrec111 : lang_Pair_l10 k p0 p1 p2 t107 kq112 = rec111 at h
     refine AW.sr ?_
     refine AO.c (x := eBool (decide (x110 < t107))) (Calm.int rfl rfl rfl rfl) ?_
     refine AO.nK [0, 4, 5, 6, 8, 40, 41, 42] ?_
     refine AW.seq ?_
     rcases of_ite h with ⟨hc113, h⟩ | ⟨hc113, h⟩
     ·refine AW.condP _ rfl hc113 ?_
      refine AW.sK [0, 4, 5, 6, 8, 40, 41] ?_
      refine AW.seq ?_
      refine AW.block ?_
      refine AW.sr ?_
      refine AO.c (Calm.move rfl rfl) ?_
      refine AO.c (Calm.assign rfl rfl) ?_
      refine AO.nK [0, 4, 5, 6, 8, 9, 40, 41] ?_
      refine AW.reg ?_
      refine AO.c (Calm.move rfl rfl) ?_
      refine AO.c (Calm.load 0 rfl rfl rfl (At.cast At.here rfl) ag30 sz30) ?_
      refine AO.c (Calm.move rfl rfl) ?_
      obtain ⟨t114, et114, h⟩ := of_bind h
      refine AO.callS [(e30 p1), (eI64 x110)] (.ar 1 (t114.toList.map eU64)) 47 rfl (by decide) ok98 rfl rfl rfl ⟨rfl, rfl, rfl, rfl, trivial⟩ (lang_class_spec et114) ?_
      refine AO.lit (Z := (.ar 1 ((Vector.replicate 4 (0 : Int)).toList.map eU64))) (xs := (([t114] : List (Vector Int 4)).map e41)) (qs := [(0, (.ar 1 (t114.toList.map eU64)))]) rfl 48 rfl (by decide) rfl ⟨rfl, rfl, rfl, trivial⟩ Try.underlying38 sz41 zr41 lay41 rfl (by decide) (litOK (z := 4) [(.ar 1 (t114.toList.map eU64))] (vec_size _ _) ⟨⟨rfl, (vec_size _ _)⟩, trivial⟩) rfl fun n115 => ?_
      obtain ⟨hg117, h⟩ := of_guard h
      refine AO.appendL (l := x109) (m := ([t114] : List (Vector Int 4))) 4 49 rfl (by decide) rfl rfl rfl rfl rfl (Src.ownL (f := e41) (l := ([t114] : List (Vector Int 4))) 0 rfl) Try.underlying38 Try.underlying38 sz41 by41 zr41 rfl hg117 (by decide) fun n116 => ?_
      refine AO.c (Calm.assign rfl rfl) ?_
      refine AO.nH [0, 4, 5, 6, 8, 40, 41] (H' := [(n4, (.mem (e30 p1))), (n5, (.mem (e30 p2))), (n6, (.mem (.st [(256, (.ar 1 ((Vector.replicate 256 (0 : Int)).toList.map eU8))), (1, (.fl (.slice none 0 0))), (1, (.fl (.slice none 0 0)))]))), (n116, (.mem (.ar 4 ((x109 ++ ([t114] : List (Vector Int 4))).map e41))))]) (Sub.cons 1 rfl (Sub.cons 1 rfl (Sub.cons 1 rfl (Sub.cons 1 rfl (Sub.nil _))))) ?_
      refine AW.reg ?_
      refine AO.c (x := eI64 (w64 (x110 + (1 : Int)))) (Calm.int rfl rfl rfl rfl) ?_
      refine AO.c (Calm.move rfl rfl) ?_
      refine AO.nK [0, 4, 5, 6, 8, 40, 41] ?_
      exact ⟨kq112, Nat.lt_succ_self _, n116, (x109 ++ ([t114] : List (Vector Int 4))), (w64 (x110 + (1 : Int))), rfl, rfl, by rw [hrec111]; exact h⟩
     ·refine AW.condN _ rfl hc113 ?_
      refine AW.eK [0, 4, 5, 6, 8] ?_
      exact ⟨n108, x109, rfl, rfl, h⟩
    ·rintro _ _ ⟨n15, x16, rfl, rfl, h⟩
     rw [lang_Pair_c9.eq_1] at h
     refine AW.seq_mid (fun ρ H => ∃ (n17 : Nat) (x18 : (List (Vector Int 4))), ρ = [(0, (eI64 p0)), (4, (.ptr n4 0)), (5, (.ptr n5 0)), (6, (.ptr n6 0)), (8, (.own n17 0 x18.length))] ∧ H = [(n4, (.mem (e30 p1))), (n5, (.mem (e30 p2))), (n6, (.mem (.st [(256, (.ar 1 ((Vector.replicate 256 (0 : Int)).toList.map eU8))), (1, (.fl (.slice none 0 0))), (1, (.fl (.slice none 0 0)))]))), (n17, (.mem (.ar 4 (x18.map e41))))] ∧ lang_Pair_c7 k p0 p1 p2 x18 = some r) ?_ ?_
     ·refine AW.sr ?_
      refine AO.c (x := .ptr n5 0) (Calm.fldPtr rfl rfl Try.underlying30 rfl sz27 _ rfl) ?_
      refine AO.c (Calm.load 1 rfl rfl rfl (At.cast (At.fld0 At.here) rfl) ag27 (by rw [sz27]; simp [AV.size])) ?_
      obtain ⟨t96, et96, h⟩ := of_bind h
      refine AO.callS [(.ar 1 (p2.f0.toList.map eU8))] (eI64 t96) 53 rfl (by decide) ok90 rfl rfl rfl ⟨rfl, rfl, trivial⟩ (byteset_Count_spec et96) ?_
      refine AO.c (Calm.move rfl rfl) ?_
      refine AO.nK [0, 4, 5, 6, 8, 53, 54] ?_
      refine AW.block ?_
      refine AW.wK [0, 4, 5, 6, 8, 53, 54] ?_
      refine AW.loop (fun kq ρ H => ∃ (n97 : Nat) (x98 : (List (Vector Int 4))) (x99 : Int), ρ = [(0, (eI64 p0)), (4, (.ptr n4 0)), (5, (.ptr n5 0)), (6, (.ptr n6 0)), (8, (.own n97 0 x98.length)), (53, (eI64 t96)), (54, (eI64 x99))] ∧ H = [(n4, (.mem (e30 p1))), (n5, (.mem (e30 p2))), (n6, (.mem (.st [(256, (.ar 1 ((Vector.replicate 256 (0 : Int)).toList.map eU8))), (1, (.fl (.slice none 0 0))), (1, (.fl (.slice none 0 0)))]))), (n97, (.mem (.ar 4 (x98.map e41))))] ∧ lang_Pair_l8 k p0 p1 p2 t96 kq x98 x99 = some r) k ⟨n15, x16, (0 : Int), rfl, rfl, h⟩ ?_
      rintro kq101 _ _ ⟨n97, x98, x99, rfl, rfl, h⟩
      cases kq101 with
      | zero => rw [lang_Pair_l8.eq_1] at h; cases h
      | succ kq101 =>
      rw [lang_Pair_l8.eq_2] at h
      generalize hrec100 : lang_Pair_l8 k p0 p1 p2 t96 kq101 = rec100 at h
      refine AW.sr ?_
      refine AO.c (x := eBool (decide (x99 < t96))) (Calm.int rfl rfl rfl rfl) ?_
      refine AO.nK [0, 4, 5, 6, 8, 53, 54, 55] ?_
      refine AW.seq ?_
      rcases of_ite h with ⟨hc102, h⟩ | ⟨hc102, h⟩
      ·refine AW.condP _ rfl hc102 ?_
       refine AW.sK [0, 4, 5, 6, 8, 53, 54] ?_
       refine AW.seq ?_
       refine AW.block ?_
       refine AW.sr ?_
       refine AO.c (Calm.move rfl rfl) ?_
       refine AO.c (Calm.assign rfl rfl) ?_
       refine AO.nK [0, 4, 5, 6, 8, 10, 53, 54] ?_
       refine AW.reg ?_
       refine AO.c (Calm.move rfl rfl) ?_
       refine AO.c (Calm.load 1 rfl rfl rfl (At.cast At.here rfl) ag30 sz30) ?_
       refine AO.c (Calm.move rfl rfl) ?_
       obtain ⟨t103, et103, h⟩ := of_bind h
       refine AO.callS [(e30 p2), (eI64 x99)] (.ar 1 (t103.toList.map eU64)) 60 rfl (by decide) ok98 rfl rfl rfl ⟨rfl, rfl, rfl, rfl, trivial⟩ (lang_class_spec et103) ?_
       refine AO.lit (Z := (.ar 1 ((Vector.replicate 4 (0 : Int)).toList.map eU64))) (xs := (([t103] : List (Vector Int 4)).map e41)) (qs := [(0, (.ar 1 (t103.toList.map eU64)))]) rfl 61 rfl (by decide) rfl ⟨rfl, rfl, rfl, trivial⟩ Try.underlying38 sz41 zr41 lay41 rfl (by decide) (litOK (z := 4) [(.ar 1 (t103.toList.map eU64))] (vec_size _ _) ⟨⟨rfl, (vec_size _ _)⟩, trivial⟩) rfl fun n104 => ?_
       obtain ⟨hg106, h⟩ := of_guard h
       refine AO.appendL (l := x98) (m := ([t103] : List (Vector Int 4))) 4 62 rfl (by decide) rfl rfl rfl rfl rfl (Src.ownL (f := e41) (l := ([t103] : List (Vector Int 4))) 0 rfl) Try.underlying38 Try.underlying38 sz41 by41 zr41 rfl hg106 (by decide) fun n105 => ?_
       refine AO.c (Calm.assign rfl rfl) ?_
       refine AO.nH [0, 4, 5, 6, 8, 53, 54] (H' := [(n4, (.mem (e30 p1))), (n5, (.mem (e30 p2))), (n6, (.mem (.st [(256, (.ar 1 ((Vector.replicate 256 (0 : Int)).toList.map eU8))), (1, (.fl (.slice none 0 0))), (1, (.fl (.slice none 0 0)))]))), (n105, (.mem (.ar 4 ((x98 ++ ([t103] : List (Vector Int 4))).map e41))))]) (Sub.cons 1 rfl (Sub.cons 1 rfl (Sub.cons 1 rfl (Sub.cons 1 rfl (Sub.nil _))))) ?_
       refine AW.reg ?_
       refine AO.c (x := eI64 (w64 (x99 + (1 : Int)))) (Calm.int rfl rfl rfl rfl) ?_
       refine AO.c (Calm.move rfl rfl) ?_
       refine AO.nK [0, 4, 5, 6, 8, 53, 54] ?_
       exact ⟨kq101, Nat.lt_succ_self _, n105, (x98 ++ ([t103] : List (Vector Int 4))), (w64 (x99 + (1 : Int))), rfl, rfl, by rw [hrec100]; exact h⟩
      ·refine AW.condN _ rfl hc102 ?_
       refine AW.eK [0, 4, 5, 6, 8] ?_
       exact ⟨n97, x98, rfl, rfl, h⟩
     ·rintro _ _ ⟨n17, x18, rfl, rfl, h⟩
      rw [lang_Pair_c7.eq_1] at h
      refine AW.sr ?_
      refine AO.c (Calm.move rfl rfl) ?_
      obtain ⟨t19, et19, h⟩ := of_bind h
      refine AO.freezeS 3 [(8, (.fz 4 (x18.map e41))), (64, (.fz 4 (x18.map e41)))] rfl ⟨fz_all rfl, fz_all rfl, trivial⟩ ?_
      refine AO.callS [(.fz 4 (x18.map e41))] (.ar 1 (t19.toList.map eU8)) 65 rfl (by decide) ok48 rfl rfl rfl ⟨rfl, rfl, trivial⟩ (byteset_Classes_spec et19) ?_
      refine AO.c (x := .st [(256, (.ar 1 (t19.toList.map eU8))), (1, (.fl (.slice none 0 0))), (1, (.fl (.slice none 0 0)))]) (Calm.build (qs := [(0, (.ar 1 (t19.toList.map eU8)))]) rfl ⟨rfl, rfl, rfl, trivial⟩ Try.underlying30 rfl zr30 lay30 (.cons rfl rfl (vec_size _ _) (vec_size _ _) (Put.cast (Put.fld0 Put.here) rfl) .nil) rfl) ?_
      refine AO.alloc rfl 11 rfl (by decide) rfl zr30 lay30 fun n20 => ?_
      refine AO.store (X' := (.st [(256, (.ar 1 (t19.toList.map eU8))), (1, (.fl (.slice none 0 0))), (1, (.fl (.slice none 0 0)))])) 0 rfl rfl rfl rfl rfl rfl (Put.cast Put.here rfl) rfl rfl sz30 rfl ?_
      refine AO.nH [0, 4, 5, 6, 11] (H' := [(n4, (.mem (e30 p1))), (n5, (.mem (e30 p2))), (n6, (.mem (.st [(256, (.ar 1 ((Vector.replicate 256 (0 : Int)).toList.map eU8))), (1, (.fl (.slice none 0 0))), (1, (.fl (.slice none 0 0)))]))), (n20, (.mem (.st [(256, (.ar 1 (t19.toList.map eU8))), (1, (.fl (.slice none 0 0))), (1, (.fl (.slice none 0 0)))])))]) (Sub.cons 1 rfl (Sub.cons 1 rfl (Sub.cons 1 rfl (Sub.cons 0 rfl (Sub.nil _))))) ?_
      refine AW.sr ?_
      refine AO.c (x := .st [(1, (eI64 (0 : Int))), (1, (eI64 (0 : Int)))]) (Calm.build (qs := [(0, (eI64 (0 : Int))), (1, (eI64 (0 : Int)))]) rfl ⟨rfl, rfl, rfl, rfl, rfl, rfl, trivial⟩ Try.underlying128 rfl zr128 lay128 (.cons rfl rfl rfl rfl (Put.cast (Put.fld0 Put.here) rfl) (.cons rfl rfl rfl rfl (Put.cast (Put.fldS (Put.fld0 Put.here)) rfl) .nil)) rfl) ?_
      refine AO.lit (Z := (.st [(1, (eI64 (0 : Int))), (1, (eI64 (0 : Int)))])) (xs := (([(S128.mk (0 : Int) (0 : Int))] : List S128).map e128)) (qs := [(0, (e128 (S128.mk (0 : Int) (0 : Int))))]) rfl 68 rfl (by decide) rfl ⟨rfl, rfl, rfl, trivial⟩ Try.underlying129 sz128 zr128 lay128 rfl (by decide) (litOK (z := 2) [(e128 (S128.mk (0 : Int) (0 : Int)))] rfl ⟨⟨rfl, rfl⟩, trivial⟩) rfl fun n21 => ?_
      refine AO.c (Calm.assign rfl rfl) ?_
      refine AO.nH [0, 4, 5, 6, 11, 12] (H' := [(n4, (.mem (e30 p1))), (n5, (.mem (e30 p2))), (n6, (.mem (.st [(256, (.ar 1 ((Vector.replicate 256 (0 : Int)).toList.map eU8))), (1, (.fl (.slice none 0 0))), (1, (.fl (.slice none 0 0)))]))), (n20, (.mem (.st [(256, (.ar 1 (t19.toList.map eU8))), (1, (.fl (.slice none 0 0))), (1, (.fl (.slice none 0 0)))]))), (n21, (.mem (.ar 2 (([(S128.mk (0 : Int) (0 : Int))] : List S128).map e128))))]) (Sub.cons 1 rfl (Sub.cons 1 rfl (Sub.cons 1 rfl (Sub.cons 1 rfl (Sub.cons 0 rfl (Sub.nil _)))))) ?_
      refine AW.sr ?_
      refine AO.makeMap rfl 69 rfl (by decide) rfl fun n22 => ?_
      refine AO.c (Calm.move rfl rfl) ?_
      obtain ⟨hg23, h⟩ := of_guard h
      refine AO.c (Calm.idxO 5 rfl rfl rfl rfl hg23 Try.underlying129 sz128) ?_
      refine AO.c (Calm.load 5 rfl rfl rfl (At.cast (At.lidx (0 : Int) hg23.1 hg23.2 At.here) (by omega)) ag128 sz128) ?_
      refine AO.mapPutS (f := eI64) (m := ([] : List (S128 × Int))) (s := (lget ([(S128.mk (0 : Int) (0 : Int))] : List S128) (0 : Int))) ks128 0 rfl rfl (.inr rfl) rfl rfl (fun _ _ h => v_pair h) rfl rfl rfl Try.underlying130 ?_
      refine AO.c (Calm.move rfl rfl) ?_
      refine AO.c (Calm.assign rfl rfl) ?_
      refine AO.nH [0, 4, 5, 6, 11, 12, 13] (H' := [(n4, (.mem (e30 p1))), (n5, (.mem (e30 p2))), (n6, (.mem (.st [(256, (.ar 1 ((Vector.replicate 256 (0 : Int)).toList.map eU8))), (1, (.fl (.slice none 0 0))), (1, (.fl (.slice none 0 0)))]))), (n20, (.mem (.st [(256, (.ar 1 (t19.toList.map eU8))), (1, (.fl (.slice none 0 0))), (1, (.fl (.slice none 0 0)))]))), (n21, (.mem (.ar 2 (([(S128.mk (0 : Int) (0 : Int))] : List S128).map e128)))), (n22, (.map (encM (fun x : S128 => kpair x.f0 x.f1) eI64 (mput ([] : List (S128 × Int)) (lget ([(S128.mk (0 : Int) (0 : Int))] : List S128) (0 : Int)) (0 : Int)))))]) (Sub.cons 1 rfl (Sub.cons 1 rfl (Sub.cons 1 rfl (Sub.cons 1 rfl (Sub.cons 1 rfl (Sub.cons 0 rfl (Sub.nil _))))))) ?_
      refine AW.seq_mid (fun ρ H => ∃ (n24 : Nat) (n26 : Nat) (x25 : (List (List Int))) (x27 : (List Int)), ρ = [(6, (.ptr n6 0)), (11, (.ptr n20 0))] ∧ H = [(n6, (.mem (.st [(256, (.ar 1 ((Vector.replicate 256 (0 : Int)).toList.map eU8))), (1, (.fl (.slice none 0 0))), (1, (.fl (.slice none 0 0)))]))), (n20, (.mem (.st [(256, (.ar 1 (t19.toList.map eU8))), (1, (.own n24 0 x25.length)), (1, (.own n26 0 x27.length))]))), (n24, (.mem (.ar 1 (x25.map e25)))), (n26, (.mem (.ar 1 (x27.map eI64))))] ∧ lang_Pair_c0 k t19 x25 x27 = some r) ?_ ?_
      ·refine AW.sr ?_
       refine AO.c (Calm.assign rfl rfl) ?_
       refine AO.nK [0, 4, 5, 6, 11, 12, 13, 14] ?_
       refine AW.block ?_
       refine AW.nilOwnFld 3 1 (fun n94 => (.st [(256, (.ar 1 (t19.toList.map eU8))), (1, (.own n94 0 0)), (1, (.fl (.slice none 0 0)))])) rfl (fun _ => (Put.cast (Put.fldS (Put.fld0 Put.here)) rfl)) (fun _ => rfl) (fun _ => rfl) fun n94 => ?_
       refine AW.nilOwnFld 4 1 (fun n95 => (.st [(256, (.ar 1 (t19.toList.map eU8))), (1, (.own n94 0 ([] : List (List Int)).length)), (1, (.own n95 0 0))])) rfl (fun _ => (Put.cast (Put.fldS (Put.fldS (Put.fld0 Put.here))) rfl)) (fun _ => rfl) (fun _ => rfl) fun n95 => ?_
       refine AW.wH [0, 4, 5, 6, 11, 12, 13, 14] (H' := [(n4, (.mem (e30 p1))), (n5, (.mem (e30 p2))), (n6, (.mem (.st [(256, (.ar 1 ((Vector.replicate 256 (0 : Int)).toList.map eU8))), (1, (.fl (.slice none 0 0))), (1, (.fl (.slice none 0 0)))]))), (n20, (.mem (.st [(256, (.ar 1 (t19.toList.map eU8))), (1, (.own n94 0 ([] : List (List Int)).length)), (1, (.own n95 0 ([] : List Int).length))]))), (n94, (.mem (.ar 1 (([] : List (List Int)).map e25)))), (n95, (.mem (.ar 1 (([] : List Int).map eI64)))), (n21, (.mem (.ar 2 (([(S128.mk (0 : Int) (0 : Int))] : List S128).map e128)))), (n22, (.map (encM (fun x : S128 => kpair x.f0 x.f1) eI64 (mput ([] : List (S128 × Int)) (lget ([(S128.mk (0 : Int) (0 : Int))] : List S128) (0 : Int)) (0 : Int)))))]) (Sub.cons 2 rfl (Sub.cons 2 rfl (Sub.cons 2 rfl (Sub.cons 2 rfl (Sub.cons 1 rfl (Sub.cons 0 rfl (Sub.cons 0 rfl (Sub.cons 0 rfl (Sub.nil _))))))))) ?_
       refine AW.loop (fun kq ρ H => ∃ (n28 : Nat) (n30 : Nat) (n32 : Nat) (x29 : (List (List Int))) (x31 : (List Int)) (x33 : (List S128)) (x34 : (List (S128 × Int))) (x35 : Int), ρ = [(0, (eI64 p0)), (4, (.ptr n4 0)), (5, (.ptr n5 0)), (6, (.ptr n6 0)), (11, (.ptr n20 0)), (12, (.own n32 0 x33.length)), (13, (.mp n22)), (14, (eI64 x35))] ∧ H = [(n4, (.mem (e30 p1))), (n5, (.mem (e30 p2))), (n6, (.mem (.st [(256, (.ar 1 ((Vector.replicate 256 (0 : Int)).toList.map eU8))), (1, (.fl (.slice none 0 0))), (1, (.fl (.slice none 0 0)))]))), (n20, (.mem (.st [(256, (.ar 1 (t19.toList.map eU8))), (1, (.own n28 0 x29.length)), (1, (.own n30 0 x31.length))]))), (n28, (.mem (.ar 1 (x29.map e25)))), (n30, (.mem (.ar 1 (x31.map eI64)))), (n32, (.mem (.ar 2 (x33.map e128)))), (n22, (.map (encM (fun x : S128 => kpair x.f0 x.f1) eI64 x34)))] ∧ lang_Pair_l6 k p0 p1 p2 t19 kq x29 x31 x33 x34 x35 = some r) k ⟨n94, n95, n21, ([] : List (List Int)), ([] : List Int), ([(S128.mk (0 : Int) (0 : Int))] : List S128), (mput ([] : List (S128 × Int)) (lget ([(S128.mk (0 : Int) (0 : Int))] : List S128) (0 : Int)) (0 : Int)), (0 : Int), rfl, rfl, h⟩ ?_
       rintro kq37 _ _ ⟨n28, n30, n32, x29, x31, x33, x34, x35, rfl, rfl, h⟩
       cases kq37 with
       | zero => rw [lang_Pair_l6.eq_1] at h; cases h
       | succ kq37 =>
       rw [lang_Pair_l6.eq_2] at h
       generalize hrec36 : lang_Pair_l6 k p0 p1 p2 t19 kq37 = rec36 at h
       refine AW.seq ?_
       refine AW.sr ?_
       refine AO.c (Calm.move rfl rfl) ?_
       refine AO.c (Calm.move rfl rfl) ?_
       refine AO.c (Calm.lenOwn rfl rfl Try.underlying129) ?_
       refine AO.c (x := eBool (decide (x35 < (x33.length : Int)))) (Calm.int rfl rfl rfl rfl) ?_
       refine AO.nK [0, 4, 5, 6, 11, 12, 13, 14, 77] ?_
       rcases of_ite h with ⟨hc38, h⟩ | ⟨hc38, h⟩
       ·refine AW.condP _ rfl hc38 ?_
        refine AW.sK [0, 4, 5, 6, 11, 12, 13, 14] ?_
        refine AW.seq_mid (fun ρ H => ∃ (n39 : Nat) (n41 : Nat) (n43 : Nat) (x40 : (List (List Int))) (x42 : (List Int)) (x44 : (List S128)) (x45 : (List (S128 × Int))), ρ = [(0, (eI64 p0)), (4, (.ptr n4 0)), (5, (.ptr n5 0)), (6, (.ptr n6 0)), (11, (.ptr n20 0)), (12, (.own n43 0 x44.length)), (13, (.mp n22)), (14, (eI64 x35))] ∧ H = [(n4, (.mem (e30 p1))), (n5, (.mem (e30 p2))), (n6, (.mem (.st [(256, (.ar 1 ((Vector.replicate 256 (0 : Int)).toList.map eU8))), (1, (.fl (.slice none 0 0))), (1, (.fl (.slice none 0 0)))]))), (n20, (.mem (.st [(256, (.ar 1 (t19.toList.map eU8))), (1, (.own n39 0 x40.length)), (1, (.own n41 0 x42.length))]))), (n39, (.mem (.ar 1 (x40.map e25)))), (n41, (.mem (.ar 1 (x42.map eI64)))), (n43, (.mem (.ar 2 (x44.map e128)))), (n22, (.map (encM (fun x : S128 => kpair x.f0 x.f1) eI64 x45)))] ∧ lang_Pair_c1 k rec36 x35 x40 x42 x44 x45 = some r) ?_ ?_
        ·refine AW.block ?_
         refine AW.seq ?_
         refine AW.sr ?_
         refine AO.c (Calm.move rfl rfl) ?_
         refine AO.c (Calm.lenOwn rfl rfl Try.underlying129) ?_
         refine AO.c (x := eBool (decide ((2000 : Int) < (x33.length : Int)))) (Calm.int rfl rfl rfl rfl) ?_
         refine AO.nK [0, 4, 5, 6, 11, 12, 13, 14, 82] ?_
         rcases of_ite h with ⟨hc46, h⟩ | ⟨hc46, h⟩
         ·refine AW.condP _ rfl hc46 ?_
          refine AW.sr ?_
          refine AO.c (x := .st [(256, (.ar 1 ((Vector.replicate 256 (0 : Int)).toList.map eU8))), (1, (.fl (.slice none 0 0))), (1, (.fl (.slice none 0 0)))]) (Calm.build (qs := []) rfl trivial Try.underlying30 rfl zr30 lay30 .nil rfl) ?_
          refine AO.store (X' := (.st [(256, (.ar 1 ((Vector.replicate 256 (0 : Int)).toList.map eU8))), (1, (.fl (.slice none 0 0))), (1, (.fl (.slice none 0 0)))])) 2 rfl rfl rfl rfl rfl rfl (Put.cast Put.here rfl) rfl rfl sz30 rfl ?_
          refine AO.c (Calm.assign rfl rfl) ?_
          refine AO.nH [6, 7] (H' := [(n6, (.mem (.st [(256, (.ar 1 ((Vector.replicate 256 (0 : Int)).toList.map eU8))), (1, (.fl (.slice none 0 0))), (1, (.fl (.slice none 0 0)))])))]) (Sub.cons 2 rfl (Sub.nil _)) ?_
          refine AW.coeFld (X' := (.st [(256, (.ar 1 ((Vector.replicate 256 (0 : Int)).toList.map eU8))), (1, (.fz 1 (([] : List (List Int)).map e25))), (1, (.fl (.slice none 0 0)))])) 0 rfl (Put.cast (Put.fldS (Put.fld0 Put.here)) rfl) rfl (nil_fz 1) rfl rfl ?_
          refine AW.coeFld (X' := (.st [(256, (.ar 1 ((Vector.replicate 256 (0 : Int)).toList.map eU8))), (1, (.fz 1 (([] : List (List Int)).map e25))), (1, (.fz 1 (([] : List Int).map eI64)))])) 0 rfl (Put.cast (Put.fldS (Put.fldS (Put.fld0 Put.here))) rfl) rfl (nil_fz 1) rfl rfl ?_
          refine AW.rK [6, 7] ?_
          have hr := Option.some.inj h
          subst hr
          exact ⟨[(e30 (S30.mk (Vector.replicate 256 (0 : Int)) ([] : List (List Int)) ([] : List Int))), (eI64 (6 : Int))], ⟨⟨_, 0, rfl, rfl, ag30, sz30⟩, rfl, rfl, trivial⟩, rfl⟩
         ·refine AW.condN _ rfl hc46 ?_
          refine AW.sK [0, 4, 5, 6, 11, 12, 13, 14] ?_
          refine AW.sr ?_
          refine AO.c (Calm.move rfl rfl) ?_
          refine AO.c (Calm.move rfl rfl) ?_
          obtain ⟨hg47, h⟩ := of_guard h
          refine AO.c (Calm.idxO 6 rfl rfl rfl rfl hg47 Try.underlying129 sz128) ?_
          refine AO.c (Calm.load 6 rfl rfl rfl (At.cast (At.lidx x35 hg47.1 hg47.2 At.here) (by omega)) ag128 sz128) ?_
          refine AO.alloc rfl 15 rfl (by decide) rfl zr128 lay128 fun n48 => ?_
          refine AO.store (X' := (e128 (lget x33 x35))) 0 rfl rfl rfl rfl rfl rfl (Put.cast Put.here rfl) rfl rfl sz128 rfl ?_
          refine AO.nH [0, 4, 5, 6, 11, 12, 13, 14, 15] (H' := [(n4, (.mem (e30 p1))), (n5, (.mem (e30 p2))), (n6, (.mem (.st [(256, (.ar 1 ((Vector.replicate 256 (0 : Int)).toList.map eU8))), (1, (.fl (.slice none 0 0))), (1, (.fl (.slice none 0 0)))]))), (n20, (.mem (.st [(256, (.ar 1 (t19.toList.map eU8))), (1, (.own n28 0 x29.length)), (1, (.own n30 0 x31.length))]))), (n28, (.mem (.ar 1 (x29.map e25)))), (n30, (.mem (.ar 1 (x31.map eI64)))), (n32, (.mem (.ar 2 (x33.map e128)))), (n22, (.map (encM (fun x : S128 => kpair x.f0 x.f1) eI64 x34))), (n48, (.mem (e128 (lget x33 x35))))]) (Sub.cons 1 rfl (Sub.cons 1 rfl (Sub.cons 1 rfl (Sub.cons 1 rfl (Sub.cons 1 rfl (Sub.cons 1 rfl (Sub.cons 1 rfl (Sub.cons 1 rfl (Sub.cons 0 rfl (Sub.nil _)))))))))) ?_
          refine AW.seq ?_
          obtain ⟨t49, et49, h⟩ := of_bind h
          obtain ⟨t50, et50, h⟩ := of_bind h
          obtain ⟨t51, et51, h⟩ := of_bind h
          obtain ⟨hg54, h⟩ := of_guard h
          refine AW.regEff (by rfl) (by decide +kernel) (fun (σ : Nat → Nat) => ([(.ptr n20 257), (.own n30 0 x31.length), (eI64 p0), (e30 p1), (.ptr n48 0), (eI64 ((lget x33 x35).f0)), (eI64 t49), (eBool (decide ((0 : Int) ≤ t49))), (e30 p2), (.ptr n48 1), (eI64 ((lget x33 x35).f1)), (eI64 t50), (eBool (decide ((0 : Int) ≤ t50))), (eI64 t51), (.fz 1 (([t51] : List Int).map eI64)), (.own (σ 15) 0 (x31 ++ ([t51] : List Int)).length), (.ptr n20 257), (.fl undef)] : List AV)) (fun (L : Nat → Bool) (σ : Nat → Nat) => ((n4, (.mem (e30 p1))) :: (n5, (.mem (e30 p2))) :: (n6, (.mem (.st [(256, (.ar 1 ((Vector.replicate 256 (0 : Int)).toList.map eU8))), (1, (.fl (.slice none 0 0))), (1, (.fl (.slice none 0 0)))]))) :: (n28, (.mem (.ar 1 (x29.map e25)))) :: (n32, (.mem (.ar 2 (x33.map e128)))) :: (n22, (.map (encM (fun x : S128 => kpair x.f0 x.f1) eI64 x34))) :: (n48, (.mem (e128 (lget x33 x35)))) :: (bif L 15 then (bif L 17 then ((n20, (.mem (.st [(256, (.ar 1 (t19.toList.map eU8))), (1, (.own n28 0 x29.length)), (1, (.own (σ 15) 0 (x31 ++ ([t51] : List Int)).length))]))) :: ((σ 15), (.mem (.ar 1 ((x31 ++ ([t51] : List Int)).map eI64)))) :: []) else ((n20, (.mem (.st [(256, (.ar 1 (t19.toList.map eU8))), (1, (.own n28 0 x29.length)), (1, (.own n30 0 x31.length))]))) :: ((σ 15), (.mem (.ar 1 ((x31 ++ ([t51] : List Int)).map eI64)))) :: [])) else ((n20, (.mem (.st [(256, (.ar 1 (t19.toList.map eU8))), (1, (.own n28 0 x29.length)), (1, (.own n30 0 x31.length))]))) :: (n30, (.mem (.ar 1 (x31.map eI64)))) :: [])) : Heap)) [(0, (eI64 p0)), (4, (.ptr n4 0)), (5, (.ptr n5 0)), (6, (.ptr n6 0)), (11, (.ptr n20 0)), (12, (.own n32 0 x33.length)), (13, (.mp n22)), (14, (eI64 x35)), (15, (.ptr n48 0))] ⟨rfl, rfl, rfl, rfl, rfl, rfl, rfl, rfl, rfl, trivial⟩ (fun _ => rfl) (fun σ => (Sub.cons 0 rfl (Sub.cons 0 rfl (Sub.cons 0 rfl (Sub.cons 1 rfl (Sub.cons 2 rfl (Sub.cons 2 rfl (Sub.cons 2 rfl (Sub.cons 0 rfl (Sub.cons 0 rfl (Sub.refl _))))))))))) ⟨?_, ?_, ?_, ?_, ?_, ?_, ?_, ?_, ?_, ?_, ?_, ?_, ?_, ?_, ?_, ?_, ?_, ?_, trivial⟩ (fun σ => [(0, (eI64 p0)), (4, (.ptr n4 0)), (5, (.ptr n5 0)), (6, (.ptr n6 0)), (11, (.ptr n20 0)), (12, (.own n32 0 x33.length)), (13, (.mp n22)), (14, (eI64 x35)), (15, (.ptr n48 0))]) (fun σ => ((n4, (.mem (e30 p1))) :: (n5, (.mem (e30 p2))) :: (n6, (.mem (.st [(256, (.ar 1 ((Vector.replicate 256 (0 : Int)).toList.map eU8))), (1, (.fl (.slice none 0 0))), (1, (.fl (.slice none 0 0)))]))) :: (n28, (.mem (.ar 1 (x29.map e25)))) :: (n32, (.mem (.ar 2 (x33.map e128)))) :: (n22, (.map (encM (fun x : S128 => kpair x.f0 x.f1) eI64 x34))) :: (n48, (.mem (e128 (lget x33 x35)))) :: (n20, (.mem (.st [(256, (.ar 1 (t19.toList.map eU8))), (1, (.own n28 0 x29.length)), (1, (.own (σ 15) 0 (x31 ++ ([t51] : List Int)).length))]))) :: ((σ 15), (.mem (.ar 1 ((x31 ++ ([t51] : List Int)).map eI64)))) :: [])) (fun σ => ⟨rfl, rfl, rfl, rfl, rfl, rfl, rfl, rfl, rfl, trivial⟩) (fun σ => Sub.refl _) (fun σ => ?_)
          ·refine StepE.calm (fun _ _ => rfl) fun L σ hc hi hd => ?_
           have m1 : L 1 = false := hc.neg (i := 0) (j := 1) rfl (by rfl) hi
           have m15 : L 15 = false := hc.neg (i := 1) (j := 15) rfl (by rfl) m1
           have m17 : L 17 = false := hc.neg (i := 0) (j := 17) rfl (by rfl) hi
           refine AO.heq (H' := ((n4, (.mem (e30 p1))) :: (n5, (.mem (e30 p2))) :: (n6, (.mem (.st [(256, (.ar 1 ((Vector.replicate 256 (0 : Int)).toList.map eU8))), (1, (.fl (.slice none 0 0))), (1, (.fl (.slice none 0 0)))]))) :: (n28, (.mem (.ar 1 (x29.map e25)))) :: (n32, (.mem (.ar 2 (x33.map e128)))) :: (n22, (.map (encM (fun x : S128 => kpair x.f0 x.f1) eI64 x34))) :: (n48, (.mem (e128 (lget x33 x35)))) :: (n20, (.mem (.st [(256, (.ar 1 (t19.toList.map eU8))), (1, (.own n28 0 x29.length)), (1, (.own n30 0 x31.length))]))) :: (n30, (.mem (.ar 1 (x31.map eI64)))) :: [])) (by first | rfl | simp only [m15, m17, cond_true, cond_false]) ?_
           refine AO.wK [11] ?_
           refine AO.c (x := .ptr n20 257) (Calm.fldPtr rfl rfl Try.underlying30 rfl sz25 _ rfl) ?_
           exact AO.nE (d := 88) rfl ⟨⟨88, _, rfl, rfl, rfl⟩, Sub.of_eq (by first | rfl | simp only [m15, m17, cond_true, cond_false]) (Sub.refl _)⟩
          ·refine StepE.calm (fun _ _ => rfl) fun L σ hc hi hd => ?_
           have m15 : L 15 = false := hc.neg (i := 1) (j := 15) rfl (by rfl) hi
           have m17 : L 17 = false := hc.neg (i := 1) (j := 17) rfl (by rfl) hi
           refine AO.heq (H' := ((n4, (.mem (e30 p1))) :: (n5, (.mem (e30 p2))) :: (n6, (.mem (.st [(256, (.ar 1 ((Vector.replicate 256 (0 : Int)).toList.map eU8))), (1, (.fl (.slice none 0 0))), (1, (.fl (.slice none 0 0)))]))) :: (n28, (.mem (.ar 1 (x29.map e25)))) :: (n32, (.mem (.ar 2 (x33.map e128)))) :: (n22, (.map (encM (fun x : S128 => kpair x.f0 x.f1) eI64 x34))) :: (n48, (.mem (e128 (lget x33 x35)))) :: (n20, (.mem (.st [(256, (.ar 1 (t19.toList.map eU8))), (1, (.own n28 0 x29.length)), (1, (.own n30 0 x31.length))]))) :: (n30, (.mem (.ar 1 (x31.map eI64)))) :: [])) (by first | rfl | simp only [m15, m17, cond_true, cond_false]) ?_
           refine AO.wK [88] ?_
           refine AO.c (Calm.load 7 rfl rfl rfl (At.cast (At.fldS (At.fldS (At.fld0 At.here))) rfl) ag25 sz25) ?_
           exact AO.nE (d := 89) rfl ⟨⟨89, _, rfl, rfl, rfl⟩, Sub.of_eq (by first | rfl | simp only [m15, m17, cond_true, cond_false]) (Sub.refl _)⟩
          ·refine StepE.calm (fun _ _ => rfl) fun L σ hc hi hd => ?_
           refine AO.wK [0] ?_
           refine AO.c (Calm.move rfl rfl) ?_
           exact AO.nE (d := 90) rfl ⟨⟨90, _, rfl, rfl, rfl⟩, Sub.refl _⟩
          ·refine StepE.calm (fun _ _ => rfl) fun L σ hc hi hd => ?_
           refine AO.wK [4] ?_
           refine AO.c (Calm.load 0 rfl rfl rfl (At.cast At.here rfl) ag30 sz30) ?_
           exact AO.nE (d := 91) rfl ⟨⟨91, _, rfl, rfl, rfl⟩, Sub.refl _⟩
          ·refine StepE.calm (fun _ _ => rfl) fun L σ hc hi hd => ?_
           refine AO.wK [15] ?_
           refine AO.c (x := .ptr n48 0) (Calm.fldPtr rfl rfl Try.underlying128 rfl sz3 _ rfl) ?_
           exact AO.nE (d := 92) rfl ⟨⟨92, _, rfl, rfl, rfl⟩, Sub.refl _⟩
          ·refine StepE.calm (fun _ _ => rfl) fun L σ hc hi hd => ?_
           refine AO.wK [92] ?_
           refine AO.c (Calm.load 6 rfl rfl rfl (At.cast (At.fld0 At.here) rfl) ag3 sz3) ?_
           exact AO.nE (d := 93) rfl ⟨⟨93, _, rfl, rfl, rfl⟩, Sub.refl _⟩
          ·refine StepE.calm (fun _ _ => rfl) fun L σ hc hi hd => ?_
           refine AO.wK [91, 93] ?_
           refine AO.callS [(e30 p1), (eI64 ((lget x33 x35).f0))] (eI64 t49) 94 rfl (by decide) ok85 rfl rfl rfl ⟨rfl, rfl, rfl, rfl, trivial⟩ (dfa_Mark_spec et49) ?_
           exact AO.nE (d := 94) rfl ⟨⟨94, _, rfl, rfl, rfl⟩, Sub.refl _⟩
          ·refine StepE.calm (fun _ _ => rfl) fun L σ hc hi hd => ?_
           refine AO.wK [94] ?_
           refine AO.c (x := eBool (decide ((0 : Int) ≤ t49))) (Calm.int rfl rfl rfl rfl) ?_
           exact AO.nE (d := 95) rfl ⟨⟨95, _, rfl, rfl, rfl⟩, Sub.refl _⟩
          ·refine StepE.calm (fun _ _ => rfl) fun L σ hc hi hd => ?_
           refine AO.wK [5] ?_
           refine AO.c (Calm.load 1 rfl rfl rfl (At.cast At.here rfl) ag30 sz30) ?_
           exact AO.nE (d := 96) rfl ⟨⟨96, _, rfl, rfl, rfl⟩, Sub.refl _⟩
          ·refine StepE.calm (fun _ _ => rfl) fun L σ hc hi hd => ?_
           refine AO.wK [15] ?_
           refine AO.c (x := .ptr n48 1) (Calm.fldPtr rfl rfl Try.underlying128 rfl sz3 _ rfl) ?_
           exact AO.nE (d := 97) rfl ⟨⟨97, _, rfl, rfl, rfl⟩, Sub.refl _⟩
          ·refine StepE.calm (fun _ _ => rfl) fun L σ hc hi hd => ?_
           refine AO.wK [97] ?_
           refine AO.c (Calm.load 6 rfl rfl rfl (At.cast (At.fldS (At.fld0 At.here)) rfl) ag3 sz3) ?_
           exact AO.nE (d := 98) rfl ⟨⟨98, _, rfl, rfl, rfl⟩, Sub.refl _⟩
          ·refine StepE.calm (fun _ _ => rfl) fun L σ hc hi hd => ?_
           refine AO.wK [96, 98] ?_
           refine AO.callS [(e30 p2), (eI64 ((lget x33 x35).f1))] (eI64 t50) 99 rfl (by decide) ok85 rfl rfl rfl ⟨rfl, rfl, rfl, rfl, trivial⟩ (dfa_Mark_spec et50) ?_
           exact AO.nE (d := 99) rfl ⟨⟨99, _, rfl, rfl, rfl⟩, Sub.refl _⟩
          ·refine StepE.calm (fun _ _ => rfl) fun L σ hc hi hd => ?_
           refine AO.wK [99] ?_
           refine AO.c (x := eBool (decide ((0 : Int) ≤ t50))) (Calm.int rfl rfl rfl rfl) ?_
           exact AO.nE (d := 100) rfl ⟨⟨100, _, rfl, rfl, rfl⟩, Sub.refl _⟩
          ·refine StepE.calm (fun _ _ => rfl) fun L σ hc hi hd => ?_
           refine AO.wK [90, 95, 100] ?_
           refine AO.callS [(eI64 p0), (eBool (decide ((0 : Int) ≤ t49))), (eBool (decide ((0 : Int) ≤ t50)))] (eI64 t51) 101 rfl (by decide) ok99 rfl rfl rfl ⟨rfl, rfl, rfl, rfl, rfl, rfl, trivial⟩ (lang_both_spec et51) ?_
           exact AO.nE (d := 101) rfl ⟨⟨101, _, rfl, rfl, rfl⟩, Sub.refl _⟩
          ·refine StepE.calm (fun _ _ => rfl) fun L σ hc hi hd => ?_
           refine AO.wK [101] ?_
           refine AO.lit (Z := (eI64 (0 : Int))) (xs := (([t51] : List Int).map eI64)) (qs := [(0, (eI64 t51))]) rfl 102 rfl (by decide) rfl ⟨rfl, rfl, rfl, trivial⟩ Try.underlying25 sz3 zr3 lay3 rfl (by decide) (litOK (z := 1) [(eI64 t51)] rfl ⟨⟨rfl, rfl⟩, trivial⟩) rfl fun n52 => ?_
           refine AO.freezeS 0 [(102, (.fz 1 (([t51] : List Int).map eI64)))] rfl ⟨fz_all rfl, trivial⟩ ?_
           exact AO.nE (d := 102) rfl ⟨⟨102, _, rfl, rfl, rfl⟩, Sub.refl _⟩
          ·intro L σ hc hi hd
           have m17 : L 17 = false := hc.neg (i := 15) (j := 17) rfl (by rfl) hi
           refine AO.heq (H' := ((n4, (.mem (e30 p1))) :: (n5, (.mem (e30 p2))) :: (n6, (.mem (.st [(256, (.ar 1 ((Vector.replicate 256 (0 : Int)).toList.map eU8))), (1, (.fl (.slice none 0 0))), (1, (.fl (.slice none 0 0)))]))) :: (n28, (.mem (.ar 1 (x29.map e25)))) :: (n32, (.mem (.ar 2 (x33.map e128)))) :: (n22, (.map (encM (fun x : S128 => kpair x.f0 x.f1) eI64 x34))) :: (n48, (.mem (e128 (lget x33 x35)))) :: (n20, (.mem (.st [(256, (.ar 1 (t19.toList.map eU8))), (1, (.own n28 0 x29.length)), (1, (.own n30 0 x31.length))]))) :: (n30, (.mem (.ar 1 (x31.map eI64)))) :: [])) (by first | rfl | simp only [hi, m17, cond_true, cond_false]) ?_
           refine AO.wK [89, 102] ?_
           refine AO.appendL (l := x31) (m := ([t51] : List Int)) 8 103 rfl (by decide) rfl rfl rfl rfl rfl Src.fz Try.underlying25 Try.underlying25 sz3 by3 zr3 rfl hg54 (by decide) fun n53 => ?_
           have a15 : addL L 15 15 = true := rfl
           have a17 : addL L 15 17 = false := m17
           have u15 : upd σ 15 n53 15 = n53 := rfl
           exact AO.nE (d := 103) rfl ⟨(upd σ 15 n53), (fun j hj => match j, hj with | 0, _ => rfl | 1, _ => rfl | 2, _ => rfl | 3, _ => rfl | 4, _ => rfl | 5, _ => rfl | 6, _ => rfl | 7, _ => rfl | 8, _ => rfl | 9, _ => rfl | 10, _ => rfl | 11, _ => rfl | 12, _ => rfl | 13, _ => rfl | 14, _ => rfl | 15, hj => Bool.noConfusion (hj.symm.trans hi) | 16, _ => rfl | 17, _ => rfl | _ + 18, _ => rfl), (fun d' hd' => ⟨_, rfl, by cases hd'; rfl⟩), Sub.of_eq (B := ((n4, (.mem (e30 p1))) :: (n5, (.mem (e30 p2))) :: (n6, (.mem (.st [(256, (.ar 1 ((Vector.replicate 256 (0 : Int)).toList.map eU8))), (1, (.fl (.slice none 0 0))), (1, (.fl (.slice none 0 0)))]))) :: (n28, (.mem (.ar 1 (x29.map e25)))) :: (n32, (.mem (.ar 2 (x33.map e128)))) :: (n22, (.map (encM (fun x : S128 => kpair x.f0 x.f1) eI64 x34))) :: (n48, (.mem (e128 (lget x33 x35)))) :: (n20, (.mem (.st [(256, (.ar 1 (t19.toList.map eU8))), (1, (.own n28 0 x29.length)), (1, (.own n30 0 x31.length))]))) :: (n53, (.mem (.ar 1 ((x31 ++ ([t51] : List Int)).map eI64)))) :: [])) (by simp only [a15, a17, u15, cond_true, cond_false]) (Sub.refl _)⟩
          ·refine StepE.calm (fun _ _ => rfl) fun L σ hc hi hd => ?_
           have y15 : L 15 = true := on_get hd (i := 15) (by rfl)
           have m17 : L 17 = false := hc.neg (i := 16) (j := 17) rfl (by rfl) hi
           refine AO.heq (H' := ((n4, (.mem (e30 p1))) :: (n5, (.mem (e30 p2))) :: (n6, (.mem (.st [(256, (.ar 1 ((Vector.replicate 256 (0 : Int)).toList.map eU8))), (1, (.fl (.slice none 0 0))), (1, (.fl (.slice none 0 0)))]))) :: (n28, (.mem (.ar 1 (x29.map e25)))) :: (n32, (.mem (.ar 2 (x33.map e128)))) :: (n22, (.map (encM (fun x : S128 => kpair x.f0 x.f1) eI64 x34))) :: (n48, (.mem (e128 (lget x33 x35)))) :: (n20, (.mem (.st [(256, (.ar 1 (t19.toList.map eU8))), (1, (.own n28 0 x29.length)), (1, (.own n30 0 x31.length))]))) :: ((σ 15), (.mem (.ar 1 ((x31 ++ ([t51] : List Int)).map eI64)))) :: [])) (by first | rfl | simp only [y15, m17, cond_true, cond_false]) ?_
           refine AO.wK [11] ?_
           refine AO.c (x := .ptr n20 257) (Calm.fldPtr rfl rfl Try.underlying30 rfl sz25 _ rfl) ?_
           exact AO.nE (d := 104) rfl ⟨⟨104, _, rfl, rfl, rfl⟩, Sub.of_eq (by first | rfl | simp only [y15, m17, cond_true, cond_false]) (Sub.refl _)⟩
          ·intro L σ hc hi hd
           have y15 : L 15 = true := on_get hd (i := 15) (by rfl)
           refine AO.heq (H' := ((n4, (.mem (e30 p1))) :: (n5, (.mem (e30 p2))) :: (n6, (.mem (.st [(256, (.ar 1 ((Vector.replicate 256 (0 : Int)).toList.map eU8))), (1, (.fl (.slice none 0 0))), (1, (.fl (.slice none 0 0)))]))) :: (n28, (.mem (.ar 1 (x29.map e25)))) :: (n32, (.mem (.ar 2 (x33.map e128)))) :: (n22, (.map (encM (fun x : S128 => kpair x.f0 x.f1) eI64 x34))) :: (n48, (.mem (e128 (lget x33 x35)))) :: (n20, (.mem (.st [(256, (.ar 1 (t19.toList.map eU8))), (1, (.own n28 0 x29.length)), (1, (.own n30 0 x31.length))]))) :: ((σ 15), (.mem (.ar 1 ((x31 ++ ([t51] : List Int)).map eI64)))) :: [])) (by first | rfl | simp only [hi, y15, cond_true, cond_false]) ?_
           refine AO.wK [103, 104] ?_
           refine AO.store (X' := (.st [(256, (.ar 1 (t19.toList.map eU8))), (1, (.own n28 0 x29.length)), (1, (.own (σ 15) 0 (x31 ++ ([t51] : List Int)).length))])) 7 rfl rfl rfl rfl rfl rfl (Put.cast (Put.fldS (Put.fldS (Put.fld0 Put.here))) rfl) rfl rfl sz25 rfl ?_
           have a15 : addL L 17 15 = true := y15
           have a17 : addL L 17 17 = true := rfl
           exact AO.n0 ⟨σ, (fun _ _ => rfl), (fun d' hd' => by cases hd'), Sub.of_eq (B := ((n4, (.mem (e30 p1))) :: (n5, (.mem (e30 p2))) :: (n6, (.mem (.st [(256, (.ar 1 ((Vector.replicate 256 (0 : Int)).toList.map eU8))), (1, (.fl (.slice none 0 0))), (1, (.fl (.slice none 0 0)))]))) :: (n28, (.mem (.ar 1 (x29.map e25)))) :: (n32, (.mem (.ar 2 (x33.map e128)))) :: (n22, (.map (encM (fun x : S128 => kpair x.f0 x.f1) eI64 x34))) :: (n48, (.mem (e128 (lget x33 x35)))) :: (n20, (.mem (.st [(256, (.ar 1 (t19.toList.map eU8))), (1, (.own n28 0 x29.length)), (1, (.own (σ 15) 0 (x31 ++ ([t51] : List Int)).length))]))) :: ((σ 15), (.mem (.ar 1 ((x31 ++ ([t51] : List Int)).map eI64)))) :: [])) (by simp only [a15, a17, cond_true, cond_false]) (Sub.refl _)⟩
          ·generalize σ 15 = n53
           refine AO.nH [0, 4, 5, 6, 11, 12, 13, 14, 15] (H' := [(n4, (.mem (e30 p1))), (n5, (.mem (e30 p2))), (n6, (.mem (.st [(256, (.ar 1 ((Vector.replicate 256 (0 : Int)).toList.map eU8))), (1, (.fl (.slice none 0 0))), (1, (.fl (.slice none 0 0)))]))), (n20, (.mem (.st [(256, (.ar 1 (t19.toList.map eU8))), (1, (.own n28 0 x29.length)), (1, (.own n53 0 (x31 ++ ([t51] : List Int)).length))]))), (n28, (.mem (.ar 1 (x29.map e25)))), (n53, (.mem (.ar 1 ((x31 ++ ([t51] : List Int)).map eI64)))), (n32, (.mem (.ar 2 (x33.map e128)))), (n22, (.map (encM (fun x : S128 => kpair x.f0 x.f1) eI64 x34))), (n48, (.mem (e128 (lget x33 x35))))]) (Sub.cons 0 rfl (Sub.cons 0 rfl (Sub.cons 0 rfl (Sub.cons 4 rfl (Sub.cons 0 rfl (Sub.cons 3 rfl (Sub.cons 0 rfl (Sub.cons 0 rfl (Sub.cons 0 rfl (Sub.nil _)))))))))) ?_
           refine AW.sr ?_
           refine AO.c (Calm.assign rfl rfl) ?_
           refine AO.nK [0, 4, 5, 6, 11, 12, 13, 14, 15, 16] ?_
           refine AW.seq_mid (fun ρ H => ∃ (n55 : Nat) (n58 : Nat) (x56 : (List S128)) (x57 : (List (S128 × Int))) (x59 : (List Int)), ρ = [(0, (eI64 p0)), (4, (.ptr n4 0)), (5, (.ptr n5 0)), (6, (.ptr n6 0)), (11, (.ptr n20 0)), (12, (.own n55 0 x56.length)), (13, (.mp n22)), (14, (eI64 x35)), (16, (.own n58 0 x59.length))] ∧ H = [(n4, (.mem (e30 p1))), (n5, (.mem (e30 p2))), (n6, (.mem (.st [(256, (.ar 1 ((Vector.replicate 256 (0 : Int)).toList.map eU8))), (1, (.fl (.slice none 0 0))), (1, (.fl (.slice none 0 0)))]))), (n20, (.mem (.st [(256, (.ar 1 (t19.toList.map eU8))), (1, (.own n28 0 x29.length)), (1, (.own n53 0 (x31 ++ ([t51] : List Int)).length))]))), (n28, (.mem (.ar 1 (x29.map e25)))), (n53, (.mem (.ar 1 ((x31 ++ ([t51] : List Int)).map eI64)))), (n55, (.mem (.ar 2 (x56.map e128)))), (n22, (.map (encM (fun x : S128 => kpair x.f0 x.f1) eI64 x57))), (n58, (.mem (.ar 1 (x59.map eI64))))] ∧ lang_Pair_c2 k rec36 x29 x31 x35 t51 x56 x57 x59 = some r) ?_ ?_
           ·refine AW.sr ?_
            refine AO.c (Calm.move rfl rfl) ?_
            refine AO.nK [0, 4, 5, 6, 11, 12, 13, 14, 15, 16, 105] ?_
            refine AW.block ?_
            refine AW.nilOwn 16 1 rfl fun n93 => ?_
            refine AW.wH [0, 4, 5, 6, 11, 12, 13, 14, 15, 16, 105] (H' := [(n4, (.mem (e30 p1))), (n5, (.mem (e30 p2))), (n6, (.mem (.st [(256, (.ar 1 ((Vector.replicate 256 (0 : Int)).toList.map eU8))), (1, (.fl (.slice none 0 0))), (1, (.fl (.slice none 0 0)))]))), (n20, (.mem (.st [(256, (.ar 1 (t19.toList.map eU8))), (1, (.own n28 0 x29.length)), (1, (.own n53 0 (x31 ++ ([t51] : List Int)).length))]))), (n28, (.mem (.ar 1 (x29.map e25)))), (n53, (.mem (.ar 1 ((x31 ++ ([t51] : List Int)).map eI64)))), (n32, (.mem (.ar 2 (x33.map e128)))), (n22, (.map (encM (fun x : S128 => kpair x.f0 x.f1) eI64 x34))), (n48, (.mem (e128 (lget x33 x35)))), (n93, (.mem (.ar 1 (([] : List Int).map eI64))))]) (Sub.cons 1 rfl (Sub.cons 1 rfl (Sub.cons 1 rfl (Sub.cons 1 rfl (Sub.cons 1 rfl (Sub.cons 1 rfl (Sub.cons 1 rfl (Sub.cons 1 rfl (Sub.cons 1 rfl (Sub.cons 0 rfl (Sub.nil _))))))))))) ?_
            refine AW.loop (fun kq ρ H => ∃ (n63 : Nat) (n66 : Nat) (x64 : (List S128)) (x65 : (List (S128 × Int))) (x67 : (List Int)) (x68 : Int), ρ = [(0, (eI64 p0)), (4, (.ptr n4 0)), (5, (.ptr n5 0)), (6, (.ptr n6 0)), (11, (.ptr n20 0)), (12, (.own n63 0 x64.length)), (13, (.mp n22)), (14, (eI64 x35)), (15, (.ptr n48 0)), (16, (.own n66 0 x67.length)), (105, (eI64 x68))] ∧ H = [(n4, (.mem (e30 p1))), (n5, (.mem (e30 p2))), (n6, (.mem (.st [(256, (.ar 1 ((Vector.replicate 256 (0 : Int)).toList.map eU8))), (1, (.fl (.slice none 0 0))), (1, (.fl (.slice none 0 0)))]))), (n20, (.mem (.st [(256, (.ar 1 (t19.toList.map eU8))), (1, (.own n28 0 x29.length)), (1, (.own n53 0 (x31 ++ ([t51] : List Int)).length))]))), (n28, (.mem (.ar 1 (x29.map e25)))), (n53, (.mem (.ar 1 ((x31 ++ ([t51] : List Int)).map eI64)))), (n63, (.mem (.ar 2 (x64.map e128)))), (n22, (.map (encM (fun x : S128 => kpair x.f0 x.f1) eI64 x65))), (n48, (.mem (e128 (lget x33 x35)))), (n66, (.mem (.ar 1 (x67.map eI64))))] ∧ lang_Pair_l5 k rec36 p1 p2 t19 x29 x31 x33 x35 t51 kq x64 x65 x67 x68 = some r) k ⟨n32, n93, x33, x34, ([] : List Int), (0 : Int), rfl, rfl, h⟩ ?_
            rintro kq70 _ _ ⟨n63, n66, x64, x65, x67, x68, rfl, rfl, h⟩
            cases kq70 with
            | zero => rw [lang_Pair_l5.eq_1] at h; cases h
            | succ kq70 =>
            rw [lang_Pair_l5.eq_2] at h
            generalize hrec69 : lang_Pair_l5 k rec36 p1 p2 t19 x29 x31 x33 x35 t51 kq70 = rec69 at h
            refine AW.sr ?_
            refine AO.c (x := eBool (decide (x68 < (256 : Int)))) (Calm.int rfl rfl rfl rfl) ?_
            refine AO.nK [0, 4, 5, 6, 11, 12, 13, 14, 15, 16, 105, 106] ?_
            refine AW.seq ?_
            rcases of_ite h with ⟨hc71, h⟩ | ⟨hc71, h⟩
            ·refine AW.condP _ rfl hc71 ?_
             refine AW.sK [0, 4, 5, 6, 11, 12, 13, 14, 15, 16, 105] ?_
             refine AW.seq_mid (fun ρ H => ∃ (n72 : Nat) (n75 : Nat) (x73 : (List S128)) (x74 : (List (S128 × Int))) (x76 : (List Int)), ρ = [(0, (eI64 p0)), (4, (.ptr n4 0)), (5, (.ptr n5 0)), (6, (.ptr n6 0)), (11, (.ptr n20 0)), (12, (.own n72 0 x73.length)), (13, (.mp n22)), (14, (eI64 x35)), (15, (.ptr n48 0)), (16, (.own n75 0 x76.length)), (105, (eI64 x68))] ∧ H = [(n4, (.mem (e30 p1))), (n5, (.mem (e30 p2))), (n6, (.mem (.st [(256, (.ar 1 ((Vector.replicate 256 (0 : Int)).toList.map eU8))), (1, (.fl (.slice none 0 0))), (1, (.fl (.slice none 0 0)))]))), (n20, (.mem (.st [(256, (.ar 1 (t19.toList.map eU8))), (1, (.own n28 0 x29.length)), (1, (.own n53 0 (x31 ++ ([t51] : List Int)).length))]))), (n28, (.mem (.ar 1 (x29.map e25)))), (n53, (.mem (.ar 1 ((x31 ++ ([t51] : List Int)).map eI64)))), (n72, (.mem (.ar 2 (x73.map e128)))), (n22, (.map (encM (fun x : S128 => kpair x.f0 x.f1) eI64 x74))), (n48, (.mem (e128 (lget x33 x35)))), (n75, (.mem (.ar 1 (x76.map eI64))))] ∧ lang_Pair_c3 k rec69 x68 x73 x74 x76 = some r) ?_ ?_
             ·refine AW.block ?_
              refine AW.sr ?_
              refine AO.c (Calm.move rfl rfl) ?_
              refine AO.c (Calm.assign rfl rfl) ?_
              refine AO.nK [0, 4, 5, 6, 11, 12, 13, 14, 15, 16, 17, 105] ?_
              refine AW.seq ?_
              refine AW.sr ?_
              refine AO.c (Calm.move rfl rfl) ?_
              refine AO.c (x := .ptr n20 0) (Calm.fldPtr rfl rfl Try.underlying30 rfl sz27 _ rfl) ?_
              obtain ⟨hg77, h⟩ := of_guard h
              refine AO.c (Calm.idxP rfl rfl rfl hg77 Try.underlying27 sz5) ?_
              refine AO.c (Calm.load 3 rfl rfl rfl (At.cast (At.fld0 (At.vidx x68 hg77.1 hg77.2 At.here)) (by omega)) ag5 sz5) ?_
              refine AO.c (x := eI64 (w64 (vget t19 x68))) (Calm.conv rfl rfl Try.underlying5 Try.underlying3) ?_
              refine AO.c (Calm.move rfl rfl) ?_
              refine AO.c (Calm.lenOwn rfl rfl Try.underlying25) ?_
              refine AO.c (x := eBool (decide ((w64 (vget t19 x68)) ≠ (x67.length : Int)))) (Calm.int rfl rfl rfl rfl) ?_
              refine AO.nK [0, 4, 5, 6, 11, 12, 13, 14, 15, 16, 17, 105, 115] ?_
              rcases of_ite h with ⟨hc78, h⟩ | ⟨hc78, h⟩
              ·refine AW.condP _ rfl hc78 ?_
               refine AW.eK [0, 4, 5, 6, 11, 12, 13, 14, 15, 16, 105] ?_
               exact ⟨n63, n66, x64, x65, x67, rfl, rfl, h⟩
              ·refine AW.condN _ rfl hc78 ?_
               refine AW.sK [0, 4, 5, 6, 11, 12, 13, 14, 15, 16, 17, 105] ?_
               refine AW.seq ?_
               obtain ⟨t79, et79, h⟩ := of_bind h
               obtain ⟨t80, et80, h⟩ := of_bind h
               refine AW.regEff (by rfl) (by decide +kernel) (fun (σ : Nat → Nat) => ([(e30 p1), (.ptr n48 0), (eI64 ((lget x33 x35).f0)), (eI64 x68), (eU8 (w8 x68)), (eI64 t79), (e30 p2), (.ptr n48 1), (eI64 ((lget x33 x35).f1)), (eI64 x68), (eU8 (w8 x68)), (eI64 t80), (e128 (S128.mk t79 t80)), (.ptr (σ 13) 0), (.fl undef)] : List AV)) (fun (L : Nat → Bool) (σ : Nat → Nat) => ((n4, (.mem (e30 p1))) :: (n5, (.mem (e30 p2))) :: (n6, (.mem (.st [(256, (.ar 1 ((Vector.replicate 256 (0 : Int)).toList.map eU8))), (1, (.fl (.slice none 0 0))), (1, (.fl (.slice none 0 0)))]))) :: (n20, (.mem (.st [(256, (.ar 1 (t19.toList.map eU8))), (1, (.own n28 0 x29.length)), (1, (.own n53 0 (x31 ++ ([t51] : List Int)).length))]))) :: (n28, (.mem (.ar 1 (x29.map e25)))) :: (n53, (.mem (.ar 1 ((x31 ++ ([t51] : List Int)).map eI64)))) :: (n63, (.mem (.ar 2 (x64.map e128)))) :: (n22, (.map (encM (fun x : S128 => kpair x.f0 x.f1) eI64 x65))) :: (n48, (.mem (e128 (lget x33 x35)))) :: (n66, (.mem (.ar 1 (x67.map eI64)))) :: (bif L 13 then (bif L 14 then (((σ 13), (.mem (e128 (S128.mk t79 t80)))) :: []) else (((σ 13), (.mem (.st [(1, (eI64 (0 : Int))), (1, (eI64 (0 : Int)))]))) :: [])) else ([])) : Heap)) [(0, (eI64 p0)), (4, (.ptr n4 0)), (5, (.ptr n5 0)), (6, (.ptr n6 0)), (11, (.ptr n20 0)), (12, (.own n63 0 x64.length)), (13, (.mp n22)), (14, (eI64 x35)), (15, (.ptr n48 0)), (16, (.own n66 0 x67.length)), (17, (eI64 x68)), (105, (eI64 x68))] ⟨rfl, rfl, rfl, rfl, rfl, rfl, rfl, rfl, rfl, rfl, rfl, rfl, trivial⟩ (fun _ => rfl) (fun σ => (Sub.refl _)) ⟨?_, ?_, ?_, ?_, ?_, ?_, ?_, ?_, ?_, ?_, ?_, ?_, ?_, ?_, ?_, trivial⟩ (fun σ => [(0, (eI64 p0)), (4, (.ptr n4 0)), (5, (.ptr n5 0)), (6, (.ptr n6 0)), (11, (.ptr n20 0)), (12, (.own n63 0 x64.length)), (13, (.mp n22)), (14, (eI64 x35)), (15, (.ptr n48 0)), (16, (.own n66 0 x67.length)), (18, (.ptr (σ 13) 0)), (105, (eI64 x68))]) (fun σ => ((n4, (.mem (e30 p1))) :: (n5, (.mem (e30 p2))) :: (n6, (.mem (.st [(256, (.ar 1 ((Vector.replicate 256 (0 : Int)).toList.map eU8))), (1, (.fl (.slice none 0 0))), (1, (.fl (.slice none 0 0)))]))) :: (n20, (.mem (.st [(256, (.ar 1 (t19.toList.map eU8))), (1, (.own n28 0 x29.length)), (1, (.own n53 0 (x31 ++ ([t51] : List Int)).length))]))) :: (n28, (.mem (.ar 1 (x29.map e25)))) :: (n53, (.mem (.ar 1 ((x31 ++ ([t51] : List Int)).map eI64)))) :: (n63, (.mem (.ar 2 (x64.map e128)))) :: (n22, (.map (encM (fun x : S128 => kpair x.f0 x.f1) eI64 x65))) :: (n48, (.mem (e128 (lget x33 x35)))) :: (n66, (.mem (.ar 1 (x67.map eI64)))) :: ((σ 13), (.mem (e128 (S128.mk t79 t80)))) :: [])) (fun σ => ⟨rfl, rfl, rfl, rfl, rfl, rfl, rfl, rfl, rfl, rfl, rfl, rfl, trivial⟩) (fun σ => Sub.refl _) (fun σ => ?_)
               ·refine StepE.calm (fun _ _ => rfl) fun L σ hc hi hd => ?_
                refine AO.wK [4] ?_
                refine AO.c (Calm.load 0 rfl rfl rfl (At.cast At.here rfl) ag30 sz30) ?_
                exact AO.nE (d := 116) rfl ⟨⟨116, _, rfl, rfl, rfl⟩, Sub.refl _⟩
               ·refine StepE.calm (fun _ _ => rfl) fun L σ hc hi hd => ?_
                refine AO.wK [15] ?_
                refine AO.c (x := .ptr n48 0) (Calm.fldPtr rfl rfl Try.underlying128 rfl sz3 _ rfl) ?_
                exact AO.nE (d := 117) rfl ⟨⟨117, _, rfl, rfl, rfl⟩, Sub.refl _⟩
               ·refine StepE.calm (fun _ _ => rfl) fun L σ hc hi hd => ?_
                refine AO.wK [117] ?_
                refine AO.c (Calm.load 8 rfl rfl rfl (At.cast (At.fld0 At.here) rfl) ag3 sz3) ?_
                exact AO.nE (d := 118) rfl ⟨⟨118, _, rfl, rfl, rfl⟩, Sub.refl _⟩
               ·refine StepE.calm (fun _ _ => rfl) fun L σ hc hi hd => ?_
                refine AO.wK [17] ?_
                refine AO.c (Calm.move rfl rfl) ?_
                exact AO.nE (d := 119) rfl ⟨⟨119, _, rfl, rfl, rfl⟩, Sub.refl _⟩
               ·refine StepE.calm (fun _ _ => rfl) fun L σ hc hi hd => ?_
                refine AO.wK [119] ?_
                refine AO.c (x := eU8 (w8 x68)) (Calm.conv rfl rfl Try.underlying3 Try.underlying5) ?_
                exact AO.nE (d := 120) rfl ⟨⟨120, _, rfl, rfl, rfl⟩, Sub.refl _⟩
               ·refine StepE.calm (fun _ _ => rfl) fun L σ hc hi hd => ?_
                refine AO.wK [116, 118, 120] ?_
                refine AO.callS [(e30 p1), (eI64 ((lget x33 x35).f0)), (eU8 (w8 x68))] (eI64 t79) 121 rfl (by decide) ok97 rfl rfl rfl ⟨rfl, rfl, rfl, rfl, rfl, rfl, trivial⟩ (dfa_Step_spec et79) ?_
                exact AO.nE (d := 121) rfl ⟨⟨121, _, rfl, rfl, rfl⟩, Sub.refl _⟩
               ·refine StepE.calm (fun _ _ => rfl) fun L σ hc hi hd => ?_
                refine AO.wK [5] ?_
                refine AO.c (Calm.load 1 rfl rfl rfl (At.cast At.here rfl) ag30 sz30) ?_
                exact AO.nE (d := 122) rfl ⟨⟨122, _, rfl, rfl, rfl⟩, Sub.refl _⟩
               ·refine StepE.calm (fun _ _ => rfl) fun L σ hc hi hd => ?_
                refine AO.wK [15] ?_
                refine AO.c (x := .ptr n48 1) (Calm.fldPtr rfl rfl Try.underlying128 rfl sz3 _ rfl) ?_
                exact AO.nE (d := 123) rfl ⟨⟨123, _, rfl, rfl, rfl⟩, Sub.refl _⟩
               ·refine StepE.calm (fun _ _ => rfl) fun L σ hc hi hd => ?_
                refine AO.wK [123] ?_
                refine AO.c (Calm.load 8 rfl rfl rfl (At.cast (At.fldS (At.fld0 At.here)) rfl) ag3 sz3) ?_
                exact AO.nE (d := 124) rfl ⟨⟨124, _, rfl, rfl, rfl⟩, Sub.refl _⟩
               ·refine StepE.calm (fun _ _ => rfl) fun L σ hc hi hd => ?_
                refine AO.wK [17] ?_
                refine AO.c (Calm.move rfl rfl) ?_
                exact AO.nE (d := 125) rfl ⟨⟨125, _, rfl, rfl, rfl⟩, Sub.refl _⟩
               ·refine StepE.calm (fun _ _ => rfl) fun L σ hc hi hd => ?_
                refine AO.wK [125] ?_
                refine AO.c (x := eU8 (w8 x68)) (Calm.conv rfl rfl Try.underlying3 Try.underlying5) ?_
                exact AO.nE (d := 126) rfl ⟨⟨126, _, rfl, rfl, rfl⟩, Sub.refl _⟩
               ·refine StepE.calm (fun _ _ => rfl) fun L σ hc hi hd => ?_
                refine AO.wK [122, 124, 126] ?_
                refine AO.callS [(e30 p2), (eI64 ((lget x33 x35).f1)), (eU8 (w8 x68))] (eI64 t80) 127 rfl (by decide) ok97 rfl rfl rfl ⟨rfl, rfl, rfl, rfl, rfl, rfl, trivial⟩ (dfa_Step_spec et80) ?_
                exact AO.nE (d := 127) rfl ⟨⟨127, _, rfl, rfl, rfl⟩, Sub.refl _⟩
               ·refine StepE.calm (fun _ _ => rfl) fun L σ hc hi hd => ?_
                refine AO.wK [121, 127] ?_
                refine AO.c (x := .st [(1, (eI64 t79)), (1, (eI64 t80))]) (Calm.build (qs := [(0, (eI64 t79)), (1, (eI64 t80))]) rfl ⟨rfl, rfl, rfl, rfl, rfl, rfl, trivial⟩ Try.underlying128 rfl zr128 lay128 (.cons rfl rfl rfl rfl (Put.cast (Put.fld0 Put.here) rfl) (.cons rfl rfl rfl rfl (Put.cast (Put.fldS (Put.fld0 Put.here)) rfl) .nil)) rfl) ?_
                exact AO.nE (d := 128) rfl ⟨⟨128, _, rfl, rfl, rfl⟩, Sub.refl _⟩
               ·intro L σ hc hi hd
                have m14 : L 14 = false := hc.neg (i := 13) (j := 14) rfl (by rfl) hi
                refine AO.heq (H' := ((n4, (.mem (e30 p1))) :: (n5, (.mem (e30 p2))) :: (n6, (.mem (.st [(256, (.ar 1 ((Vector.replicate 256 (0 : Int)).toList.map eU8))), (1, (.fl (.slice none 0 0))), (1, (.fl (.slice none 0 0)))]))) :: (n20, (.mem (.st [(256, (.ar 1 (t19.toList.map eU8))), (1, (.own n28 0 x29.length)), (1, (.own n53 0 (x31 ++ ([t51] : List Int)).length))]))) :: (n28, (.mem (.ar 1 (x29.map e25)))) :: (n53, (.mem (.ar 1 ((x31 ++ ([t51] : List Int)).map eI64)))) :: (n63, (.mem (.ar 2 (x64.map e128)))) :: (n22, (.map (encM (fun x : S128 => kpair x.f0 x.f1) eI64 x65))) :: (n48, (.mem (e128 (lget x33 x35)))) :: (n66, (.mem (.ar 1 (x67.map eI64)))) :: [])) (by first | rfl | simp only [hi, m14, cond_true, cond_false]) ?_
                refine AO.wK [] ?_
                refine AO.alloc rfl 18 rfl (by decide) rfl zr128 lay128 fun n81 => ?_
                have a13 : addL L 13 13 = true := rfl
                have a14 : addL L 13 14 = false := m14
                have u13 : upd σ 13 n81 13 = n81 := rfl
                exact AO.nE (d := 18) rfl ⟨(upd σ 13 n81), (fun j hj => match j, hj with | 0, _ => rfl | 1, _ => rfl | 2, _ => rfl | 3, _ => rfl | 4, _ => rfl | 5, _ => rfl | 6, _ => rfl | 7, _ => rfl | 8, _ => rfl | 9, _ => rfl | 10, _ => rfl | 11, _ => rfl | 12, _ => rfl | 13, hj => Bool.noConfusion (hj.symm.trans hi) | 14, _ => rfl | _ + 15, _ => rfl), (fun d' hd' => ⟨_, rfl, by cases hd'; rfl⟩), Sub.of_eq (B := ((n4, (.mem (e30 p1))) :: (n5, (.mem (e30 p2))) :: (n6, (.mem (.st [(256, (.ar 1 ((Vector.replicate 256 (0 : Int)).toList.map eU8))), (1, (.fl (.slice none 0 0))), (1, (.fl (.slice none 0 0)))]))) :: (n20, (.mem (.st [(256, (.ar 1 (t19.toList.map eU8))), (1, (.own n28 0 x29.length)), (1, (.own n53 0 (x31 ++ ([t51] : List Int)).length))]))) :: (n28, (.mem (.ar 1 (x29.map e25)))) :: (n53, (.mem (.ar 1 ((x31 ++ ([t51] : List Int)).map eI64)))) :: (n63, (.mem (.ar 2 (x64.map e128)))) :: (n22, (.map (encM (fun x : S128 => kpair x.f0 x.f1) eI64 x65))) :: (n48, (.mem (e128 (lget x33 x35)))) :: (n66, (.mem (.ar 1 (x67.map eI64)))) :: (n81, (.mem (.st [(1, (eI64 (0 : Int))), (1, (eI64 (0 : Int)))]))) :: [])) (by simp only [a13, a14, u13, cond_true, cond_false]) (Sub.cons 1 rfl (Sub.cons 1 rfl (Sub.cons 1 rfl (Sub.cons 1 rfl (Sub.cons 1 rfl (Sub.cons 1 rfl (Sub.cons 1 rfl (Sub.cons 1 rfl (Sub.cons 1 rfl (Sub.cons 1 rfl (Sub.cons 0 rfl (Sub.refl _))))))))))))⟩
               ·intro L σ hc hi hd
                have y13 : L 13 = true := on_get hd (i := 13) (by rfl)
                refine AO.heq (H' := ((n4, (.mem (e30 p1))) :: (n5, (.mem (e30 p2))) :: (n6, (.mem (.st [(256, (.ar 1 ((Vector.replicate 256 (0 : Int)).toList.map eU8))), (1, (.fl (.slice none 0 0))), (1, (.fl (.slice none 0 0)))]))) :: (n20, (.mem (.st [(256, (.ar 1 (t19.toList.map eU8))), (1, (.own n28 0 x29.length)), (1, (.own n53 0 (x31 ++ ([t51] : List Int)).length))]))) :: (n28, (.mem (.ar 1 (x29.map e25)))) :: (n53, (.mem (.ar 1 ((x31 ++ ([t51] : List Int)).map eI64)))) :: (n63, (.mem (.ar 2 (x64.map e128)))) :: (n22, (.map (encM (fun x : S128 => kpair x.f0 x.f1) eI64 x65))) :: (n48, (.mem (e128 (lget x33 x35)))) :: (n66, (.mem (.ar 1 (x67.map eI64)))) :: ((σ 13), (.mem (.st [(1, (eI64 (0 : Int))), (1, (eI64 (0 : Int)))]))) :: [])) (by first | rfl | simp only [hi, y13, cond_true, cond_false]) ?_
                refine AO.wK [18, 128] ?_
                refine AO.store (X' := (e128 (S128.mk t79 t80))) 10 rfl rfl rfl rfl rfl rfl (Put.cast Put.here rfl) rfl rfl sz128 rfl ?_
                have a13 : addL L 14 13 = true := y13
                have a14 : addL L 14 14 = true := rfl
                exact AO.n0 ⟨σ, (fun _ _ => rfl), (fun d' hd' => by cases hd'), Sub.of_eq (B := ((n4, (.mem (e30 p1))) :: (n5, (.mem (e30 p2))) :: (n6, (.mem (.st [(256, (.ar 1 ((Vector.replicate 256 (0 : Int)).toList.map eU8))), (1, (.fl (.slice none 0 0))), (1, (.fl (.slice none 0 0)))]))) :: (n20, (.mem (.st [(256, (.ar 1 (t19.toList.map eU8))), (1, (.own n28 0 x29.length)), (1, (.own n53 0 (x31 ++ ([t51] : List Int)).length))]))) :: (n28, (.mem (.ar 1 (x29.map e25)))) :: (n53, (.mem (.ar 1 ((x31 ++ ([t51] : List Int)).map eI64)))) :: (n63, (.mem (.ar 2 (x64.map e128)))) :: (n22, (.map (encM (fun x : S128 => kpair x.f0 x.f1) eI64 x65))) :: (n48, (.mem (e128 (lget x33 x35)))) :: (n66, (.mem (.ar 1 (x67.map eI64)))) :: ((σ 13), (.mem (e128 (S128.mk t79 t80)))) :: [])) (by simp only [a13, a14, cond_true, cond_false]) (Sub.refl _)⟩
               ·generalize σ 13 = n81
                refine AO.nK [0, 4, 5, 6, 11, 12, 13, 14, 15, 16, 18, 105] ?_
                refine AW.sr ?_
                refine AO.c (Calm.move rfl rfl) ?_
                refine AO.c (Calm.load 10 rfl rfl rfl (At.cast At.here rfl) ag128 sz128) ?_
                refine AO.c (x := .tup [(eI64 ((mget x65 (S128.mk t79 t80)).getD (0 : Int))), (eBool ((mget x65 (S128.mk t79 t80)).isSome))]) (Calm.look2S (f := eI64) (s := (S128.mk t79 t80)) ks128 (0 : Int) 7 rfl rfl rfl (fun _ _ h => v_pair h) rfl Try.underlying130 mz3) ?_
                refine AO.c (Calm.move rfl rfl) ?_
                refine AO.c (Calm.extract rfl rfl rfl) ?_
                refine AO.c (Calm.extract rfl rfl rfl) ?_
                refine AO.c (Calm.assign rfl rfl) ?_
                refine AO.c (Calm.assign rfl rfl) ?_
                refine AO.nK [0, 4, 5, 6, 11, 12, 13, 14, 15, 16, 18, 19, 20, 105] ?_
                refine AW.seq_mid (fun ρ H => ∃ (n82 : Nat) (x83 : (List S128)) (x84 : (List (S128 × Int))) (x85 : Int), ρ = [(0, (eI64 p0)), (4, (.ptr n4 0)), (5, (.ptr n5 0)), (6, (.ptr n6 0)), (11, (.ptr n20 0)), (12, (.own n82 0 x83.length)), (13, (.mp n22)), (14, (eI64 x35)), (15, (.ptr n48 0)), (16, (.own n66 0 x67.length)), (19, (eI64 x85)), (105, (eI64 x68))] ∧ H = [(n4, (.mem (e30 p1))), (n5, (.mem (e30 p2))), (n6, (.mem (.st [(256, (.ar 1 ((Vector.replicate 256 (0 : Int)).toList.map eU8))), (1, (.fl (.slice none 0 0))), (1, (.fl (.slice none 0 0)))]))), (n20, (.mem (.st [(256, (.ar 1 (t19.toList.map eU8))), (1, (.own n28 0 x29.length)), (1, (.own n53 0 (x31 ++ ([t51] : List Int)).length))]))), (n28, (.mem (.ar 1 (x29.map e25)))), (n53, (.mem (.ar 1 ((x31 ++ ([t51] : List Int)).map eI64)))), (n82, (.mem (.ar 2 (x83.map e128)))), (n22, (.map (encM (fun x : S128 => kpair x.f0 x.f1) eI64 x84))), (n48, (.mem (e128 (lget x33 x35)))), (n66, (.mem (.ar 1 (x67.map eI64))))] ∧ lang_Pair_c4 k rec69 x67 x68 x83 x84 x85 = some r) ?_ ?_
                ·refine AW.sr ?_
                 refine AO.c (Calm.move rfl rfl) ?_
                 refine AO.c (Calm.not rfl rfl) ?_
                 refine AO.nK [0, 4, 5, 6, 11, 12, 13, 14, 15, 16, 18, 19, 105, 136] ?_
                 rcases of_ite h with ⟨hc89, h⟩ | ⟨hc89, h⟩
                 ·refine AW.condT' _ rfl hc89 ?_
                  refine AW.sr ?_
                  refine AO.c (Calm.move rfl rfl) ?_
                  refine AO.c (Calm.lenOwn rfl rfl Try.underlying129) ?_
                  refine AO.c (Calm.assign rfl rfl) ?_
                  refine AO.nK [0, 4, 5, 6, 11, 12, 13, 14, 15, 16, 18, 19, 105] ?_
                  refine AW.sr ?_
                  refine AO.c (Calm.move rfl rfl) ?_
                  refine AO.c (Calm.load 10 rfl rfl rfl (At.cast At.here rfl) ag128 sz128) ?_
                  refine AO.c (Calm.move rfl rfl) ?_
                  refine AO.mapPutS (f := eI64) (m := x65) (s := (S128.mk t79 t80)) ks128 7 rfl rfl (.inl rfl) rfl rfl (fun _ _ h => v_pair h) rfl rfl rfl Try.underlying130 ?_
                  refine AO.nK [0, 4, 5, 6, 11, 12, 13, 14, 15, 16, 18, 19, 105] ?_
                  refine AW.reg ?_
                  refine AO.c (Calm.move rfl rfl) ?_
                  refine AO.c (Calm.load 10 rfl rfl rfl (At.cast At.here rfl) ag128 sz128) ?_
                  refine AO.lit (Z := (.st [(1, (eI64 (0 : Int))), (1, (eI64 (0 : Int)))])) (xs := (([(S128.mk t79 t80)] : List S128).map e128)) (qs := [(0, (e128 (S128.mk t79 t80)))]) rfl 144 rfl (by decide) rfl ⟨rfl, rfl, rfl, trivial⟩ Try.underlying129 sz128 zr128 lay128 rfl (by decide) (litOK (z := 2) [(e128 (S128.mk t79 t80))] rfl ⟨⟨rfl, rfl⟩, trivial⟩) rfl fun n90 => ?_
                  obtain ⟨hg92, h⟩ := of_guard h
                  refine AO.appendL (l := x64) (m := ([(S128.mk t79 t80)] : List S128)) 7 145 rfl (by decide) rfl rfl rfl rfl rfl (Src.ownL (f := e128) (l := ([(S128.mk t79 t80)] : List S128)) 0 rfl) Try.underlying129 Try.underlying129 sz128 by128 zr128 rfl hg92 (by decide) fun n91 => ?_
                  refine AO.c (Calm.assign rfl rfl) ?_
                  refine AO.nH [0, 4, 5, 6, 11, 12, 13, 14, 15, 16, 19, 105] (H' := [(n4, (.mem (e30 p1))), (n5, (.mem (e30 p2))), (n6, (.mem (.st [(256, (.ar 1 ((Vector.replicate 256 (0 : Int)).toList.map eU8))), (1, (.fl (.slice none 0 0))), (1, (.fl (.slice none 0 0)))]))), (n20, (.mem (.st [(256, (.ar 1 (t19.toList.map eU8))), (1, (.own n28 0 x29.length)), (1, (.own n53 0 (x31 ++ ([t51] : List Int)).length))]))), (n28, (.mem (.ar 1 (x29.map e25)))), (n53, (.mem (.ar 1 ((x31 ++ ([t51] : List Int)).map eI64)))), (n91, (.mem (.ar 2 ((x64 ++ ([(S128.mk t79 t80)] : List S128)).map e128)))), (n22, (.map (encM (fun x : S128 => kpair x.f0 x.f1) eI64 (mput x65 (S128.mk t79 t80) (x64.length : Int))))), (n48, (.mem (e128 (lget x33 x35)))), (n66, (.mem (.ar 1 (x67.map eI64))))]) (Sub.cons 1 rfl (Sub.cons 1 rfl (Sub.cons 1 rfl (Sub.cons 1 rfl (Sub.cons 1 rfl (Sub.cons 1 rfl (Sub.cons 1 rfl (Sub.cons 1 rfl (Sub.cons 1 rfl (Sub.cons 1 rfl (Sub.nil _))))))))))) ?_
                  exact ⟨n91, (x64 ++ ([(S128.mk t79 t80)] : List S128)), (mput x65 (S128.mk t79 t80) (x64.length : Int)), (x64.length : Int), rfl, rfl, h⟩
                 ·refine AW.condF' _ rfl hc89 ?_
                  refine AW.sH [0, 4, 5, 6, 11, 12, 13, 14, 15, 16, 19, 105] (H' := [(n4, (.mem (e30 p1))), (n5, (.mem (e30 p2))), (n6, (.mem (.st [(256, (.ar 1 ((Vector.replicate 256 (0 : Int)).toList.map eU8))), (1, (.fl (.slice none 0 0))), (1, (.fl (.slice none 0 0)))]))), (n20, (.mem (.st [(256, (.ar 1 (t19.toList.map eU8))), (1, (.own n28 0 x29.length)), (1, (.own n53 0 (x31 ++ ([t51] : List Int)).length))]))), (n28, (.mem (.ar 1 (x29.map e25)))), (n53, (.mem (.ar 1 ((x31 ++ ([t51] : List Int)).map eI64)))), (n63, (.mem (.ar 2 (x64.map e128)))), (n22, (.map (encM (fun x : S128 => kpair x.f0 x.f1) eI64 x65))), (n48, (.mem (e128 (lget x33 x35)))), (n66, (.mem (.ar 1 (x67.map eI64))))]) (Sub.cons 0 rfl (Sub.cons 0 rfl (Sub.cons 0 rfl (Sub.cons 0 rfl (Sub.cons 0 rfl (Sub.cons 0 rfl (Sub.cons 0 rfl (Sub.cons 0 rfl (Sub.cons 0 rfl (Sub.cons 0 rfl (Sub.nil _))))))))))) ?_
                  exact ⟨n63, x64, x65, ((mget x65 (S128.mk t79 t80)).getD (0 : Int)), rfl, rfl, h⟩
                ·rintro _ _ ⟨n82, x83, x84, x85, rfl, rfl, h⟩
                 rw [lang_Pair_c4.eq_1] at h
                 refine AW.reg ?_
                 refine AO.c (Calm.move rfl rfl) ?_
                 refine AO.c (Calm.move rfl rfl) ?_
                 refine AO.lit (Z := (eI64 (0 : Int))) (xs := (([x85] : List Int).map eI64)) (qs := [(0, (eI64 x85))]) rfl 148 rfl (by decide) rfl ⟨rfl, rfl, rfl, trivial⟩ Try.underlying25 sz3 zr3 lay3 rfl (by decide) (litOK (z := 1) [(eI64 x85)] rfl ⟨⟨rfl, rfl⟩, trivial⟩) rfl fun n86 => ?_
                 obtain ⟨hg88, h⟩ := of_guard h
                 refine AO.appendL (l := x67) (m := ([x85] : List Int)) 10 149 rfl (by decide) rfl rfl rfl rfl rfl (Src.ownL (f := eI64) (l := ([x85] : List Int)) 0 rfl) Try.underlying25 Try.underlying25 sz3 by3 zr3 rfl hg88 (by decide) fun n87 => ?_
                 refine AO.c (Calm.assign rfl rfl) ?_
                 refine AO.nH [0, 4, 5, 6, 11, 12, 13, 14, 15, 16, 105] (H' := [(n4, (.mem (e30 p1))), (n5, (.mem (e30 p2))), (n6, (.mem (.st [(256, (.ar 1 ((Vector.replicate 256 (0 : Int)).toList.map eU8))), (1, (.fl (.slice none 0 0))), (1, (.fl (.slice none 0 0)))]))), (n20, (.mem (.st [(256, (.ar 1 (t19.toList.map eU8))), (1, (.own n28 0 x29.length)), (1, (.own n53 0 (x31 ++ ([t51] : List Int)).length))]))), (n28, (.mem (.ar 1 (x29.map e25)))), (n53, (.mem (.ar 1 ((x31 ++ ([t51] : List Int)).map eI64)))), (n82, (.mem (.ar 2 (x83.map e128)))), (n22, (.map (encM (fun x : S128 => kpair x.f0 x.f1) eI64 x84))), (n48, (.mem (e128 (lget x33 x35)))), (n87, (.mem (.ar 1 ((x67 ++ ([x85] : List Int)).map eI64))))]) (Sub.cons 1 rfl (Sub.cons 1 rfl (Sub.cons 1 rfl (Sub.cons 1 rfl (Sub.cons 1 rfl (Sub.cons 1 rfl (Sub.cons 1 rfl (Sub.cons 1 rfl (Sub.cons 1 rfl (Sub.cons 1 rfl (Sub.nil _))))))))))) ?_
                 exact ⟨n82, n87, x83, x84, (x67 ++ ([x85] : List Int)), rfl, rfl, h⟩
             ·rintro _ _ ⟨n72, n75, x73, x74, x76, rfl, rfl, h⟩
              rw [lang_Pair_c3.eq_1] at h
              refine AW.reg ?_
              refine AO.c (x := eI64 (w64 (x68 + (1 : Int)))) (Calm.int rfl rfl rfl rfl) ?_
              refine AO.c (Calm.move rfl rfl) ?_
              refine AO.nK [0, 4, 5, 6, 11, 12, 13, 14, 15, 16, 105] ?_
              exact ⟨kq70, Nat.lt_succ_self _, n72, n75, x73, x74, x76, (w64 (x68 + (1 : Int))), rfl, rfl, by rw [hrec69]; exact h⟩
            ·refine AW.condN _ rfl hc71 ?_
             refine AW.eH [0, 4, 5, 6, 11, 12, 13, 14, 16] (H' := [(n4, (.mem (e30 p1))), (n5, (.mem (e30 p2))), (n6, (.mem (.st [(256, (.ar 1 ((Vector.replicate 256 (0 : Int)).toList.map eU8))), (1, (.fl (.slice none 0 0))), (1, (.fl (.slice none 0 0)))]))), (n20, (.mem (.st [(256, (.ar 1 (t19.toList.map eU8))), (1, (.own n28 0 x29.length)), (1, (.own n53 0 (x31 ++ ([t51] : List Int)).length))]))), (n28, (.mem (.ar 1 (x29.map e25)))), (n53, (.mem (.ar 1 ((x31 ++ ([t51] : List Int)).map eI64)))), (n63, (.mem (.ar 2 (x64.map e128)))), (n22, (.map (encM (fun x : S128 => kpair x.f0 x.f1) eI64 x65))), (n66, (.mem (.ar 1 (x67.map eI64))))]) (Sub.cons 0 rfl (Sub.cons 0 rfl (Sub.cons 0 rfl (Sub.cons 0 rfl (Sub.cons 0 rfl (Sub.cons 0 rfl (Sub.cons 0 rfl (Sub.cons 0 rfl (Sub.cons 1 rfl (Sub.nil _)))))))))) ?_
             exact ⟨n63, n66, x64, x65, x67, rfl, rfl, h⟩
           ·rintro _ _ ⟨n55, n58, x56, x57, x59, rfl, rfl, h⟩
            rw [lang_Pair_c2.eq_1] at h
            refine AW.reg ?_
            refine AO.c (x := .ptr n20 256) (Calm.fldPtr rfl rfl Try.underlying30 rfl sz28 _ rfl) ?_
            refine AO.c (Calm.load 3 rfl rfl rfl (At.cast (At.fldS (At.fld0 At.here)) rfl) ag28 sz28) ?_
            refine AO.c (Calm.move rfl rfl) ?_
            refine AO.freezeS 8 [(16, (.fz 1 (x59.map eI64))), (153, (.fz 1 (x59.map eI64)))] rfl ⟨fz_all rfl, fz_all rfl, trivial⟩ ?_
            refine AO.lit (Z := (.fl (.slice none 0 0))) (xs := (([x59] : List (List Int)).map e25)) (qs := [(0, (.fz 1 (x59.map eI64)))]) rfl 154 rfl (by decide) rfl ⟨rfl, rfl, rfl, trivial⟩ Try.underlying28 sz25 zr25 lay25 rfl (by decide) (litOK (z := 1) [(.fz 1 (x59.map eI64))] rfl ⟨⟨rfl, rfl⟩, trivial⟩) rfl fun n60 => ?_
            obtain ⟨hg62, h⟩ := of_guard h
            refine AO.appendL (l := x29) (m := ([x59] : List (List Int))) 5 155 rfl (by decide) rfl rfl rfl rfl rfl (Src.ownL (f := e25) (l := ([x59] : List (List Int))) 0 rfl) Try.underlying28 Try.underlying28 sz25 by25 zr25 rfl hg62 (by decide) fun n61 => ?_
            refine AO.c (x := .ptr n20 256) (Calm.fldPtr rfl rfl Try.underlying30 rfl sz28 _ rfl) ?_
            refine AO.store (X' := (.st [(256, (.ar 1 (t19.toList.map eU8))), (1, (.own n61 0 (x29 ++ ([x59] : List (List Int))).length)), (1, (.own n53 0 (x31 ++ ([t51] : List Int)).length))])) 4 rfl rfl rfl rfl rfl rfl (Put.cast (Put.fldS (Put.fld0 Put.here)) rfl) rfl rfl sz28 rfl ?_
            refine AO.nH [0, 4, 5, 6, 11, 12, 13, 14] (H' := [(n4, (.mem (e30 p1))), (n5, (.mem (e30 p2))), (n6, (.mem (.st [(256, (.ar 1 ((Vector.replicate 256 (0 : Int)).toList.map eU8))), (1, (.fl (.slice none 0 0))), (1, (.fl (.slice none 0 0)))]))), (n20, (.mem (.st [(256, (.ar 1 (t19.toList.map eU8))), (1, (.own n61 0 (x29 ++ ([x59] : List (List Int))).length)), (1, (.own n53 0 (x31 ++ ([t51] : List Int)).length))]))), (n61, (.mem (.ar 1 ((x29 ++ ([x59] : List (List Int))).map e25)))), (n53, (.mem (.ar 1 ((x31 ++ ([t51] : List Int)).map eI64)))), (n55, (.mem (.ar 2 (x56.map e128)))), (n22, (.map (encM (fun x : S128 => kpair x.f0 x.f1) eI64 x57)))]) (Sub.cons 1 rfl (Sub.cons 1 rfl (Sub.cons 1 rfl (Sub.cons 1 rfl (Sub.cons 1 rfl (Sub.cons 1 rfl (Sub.cons 1 rfl (Sub.cons 1 rfl (Sub.nil _))))))))) ?_
            exact ⟨n61, n53, n55, (x29 ++ ([x59] : List (List Int))), (x31 ++ ([t51] : List Int)), x56, x57, rfl, rfl, h⟩
        ·rintro _ _ ⟨n39, n41, n43, x40, x42, x44, x45, rfl, rfl, h⟩
         rw [lang_Pair_c1.eq_1] at h
         refine AW.reg ?_
         refine AO.c (Calm.move rfl rfl) ?_
         refine AO.c (x := eI64 (w64 (x35 + (1 : Int)))) (Calm.int rfl rfl rfl rfl) ?_
         refine AO.c (Calm.assign rfl rfl) ?_
         refine AO.nK [0, 4, 5, 6, 11, 12, 13, 14] ?_
         exact ⟨kq37, Nat.lt_succ_self _, n39, n41, n43, x40, x42, x44, x45, (w64 (x35 + (1 : Int))), rfl, rfl, by rw [hrec36]; exact h⟩
       ·refine AW.condN _ rfl hc38 ?_
        refine AW.eH [6, 11] (H' := [(n6, (.mem (.st [(256, (.ar 1 ((Vector.replicate 256 (0 : Int)).toList.map eU8))), (1, (.fl (.slice none 0 0))), (1, (.fl (.slice none 0 0)))]))), (n20, (.mem (.st [(256, (.ar 1 (t19.toList.map eU8))), (1, (.own n28 0 x29.length)), (1, (.own n30 0 x31.length))]))), (n28, (.mem (.ar 1 (x29.map e25)))), (n30, (.mem (.ar 1 (x31.map eI64))))]) (Sub.cons 2 rfl (Sub.cons 2 rfl (Sub.cons 2 rfl (Sub.cons 2 rfl (Sub.nil _))))) ?_
        exact ⟨n28, n30, x29, x31, rfl, rfl, h⟩
      ·rintro _ _ ⟨n24, n26, x25, x27, rfl, rfl, h⟩
       rw [lang_Pair_c0.eq_1] at h
       refine AW.sr ?_
       refine AO.freezeFld (X' := (.st [(256, (.ar 1 (t19.toList.map eU8))), (1, (.fz 1 (x25.map e25))), (1, (.own n26 0 x27.length))])) (els' := (x25.map e25)) 2 1 rfl rfl (Put.cast (Put.fldS (Put.fld0 Put.here)) rfl) (by simp) (by rw [own_all]) rfl rfl (by decide) ?_
       refine AO.freezeFld (X' := (.st [(256, (.ar 1 (t19.toList.map eU8))), (1, (.fz 1 (x25.map e25))), (1, (.fz 1 (x27.map eI64)))])) (els' := (x27.map eI64)) 2 1 rfl rfl (Put.cast (Put.fldS (Put.fldS (Put.fld0 Put.here))) rfl) (by simp) (by rw [own_all]) rfl rfl (by decide) ?_
       refine AO.c (x := e30 (S30.mk t19 x25 x27)) (Calm.load 1 rfl rfl rfl (At.cast At.here rfl) ag30 sz30) ?_
       refine AO.store (X' := (e30 (S30.mk t19 x25 x27))) 0 rfl rfl rfl rfl rfl rfl (Put.cast Put.here rfl) rfl rfl sz30 rfl ?_
       refine AO.c (Calm.assign rfl rfl) ?_
       refine AO.nH [6, 7] (H' := [(n6, (.mem (e30 (S30.mk t19 x25 x27))))]) (Sub.cons 0 rfl (Sub.nil _)) ?_
       refine AW.rK [6, 7] ?_
       have hr := Option.some.inj h
       subst hr
       exact ⟨[(e30 (S30.mk t19 x25 x27)), (eI64 (0 : Int))], ⟨⟨_, 0, rfl, rfl, ag30, sz30⟩, rfl, rfl, trivial⟩, rfl⟩
end Go.Avl.T5
/- bosket/lang.Equal; printed by avmain.py. -/
namespace Go.Avl.T5
open Go Go.RowKit Go.Proofs Go.Avl
set_option linter.unusedVariables false
set_option maxRecDepth 100000
set_option maxHeartbeats 4000000
attribute [local irreducible] AW AO AQ Spec SpecH Calm

def lang_Equal (k : Nat) (p0 : S30) (p1 : S30) : Option (Bool × ByteArray × Int) :=
  (lang_Pair k (3 : Int) p0 p1).bind fun t5 =>
  if t5.2 ≠ (0 : Int) then some (false, (ByteArray.mk #[]), t5.2)
  else (lang_Shortest k t5.1).bind fun t8 =>
  some (!t8.2, t8.1, (0 : Int))
theorem lang_Equal_spec {k : Nat} {p0 : S30} {p1 : S30} {r : (Bool × ByteArray × Int)} (h : lang_Equal k p0 p1 = some r) : Spec Try.prog 44 [(e30 p0), (e30 p1)] (.tup [(eBool r.1), (eStr r.2.1), (eI64 r.2.2)]) := by
  rw [lang_Equal.eq_1] at h
  refine Spec.intro (res := [.tmp 4, .tmp 5, .tmp 6]) Try.func44 rfl rfl rfl (Nat.le_of_ble_eq_true rfl) ?_
  refine AW.sr ?_
  refine AO.box rfl 2 rfl (by decide) rfl rfl rfl fun n3 => ?_
  refine AO.box rfl 3 rfl (by decide) rfl rfl rfl fun n4 => ?_
  refine AO.c (Calm.assign rfl rfl) ?_
  refine AO.c (Calm.assign rfl rfl) ?_
  refine AO.c (Calm.assign rfl rfl) ?_
  refine AO.nH [2, 3] (H' := [(n3, (.mem (e30 p0))), (n4, (.mem (e30 p1)))]) (Sub.cons 1 rfl (Sub.cons 0 rfl (Sub.nil _))) ?_
  refine AW.sr ?_
  refine AO.c (Calm.load 0 rfl rfl rfl (At.cast At.here rfl) ag30 sz30) ?_
  refine AO.c (Calm.load 1 rfl rfl rfl (At.cast At.here rfl) ag30 sz30) ?_
  obtain ⟨t5, et5, h⟩ := of_bind h
  refine AO.callS [(eI64 (3 : Int)), (e30 p0), (e30 p1)] (.tup [(e30 t5.1), (eI64 t5.2)]) 14 rfl (by decide) ok78 rfl rfl rfl ⟨rfl, rfl, rfl, rfl, rfl, rfl, trivial⟩ (lang_Pair_spec et5) ?_
  refine AO.c (Calm.move rfl rfl) ?_
  refine AO.c (Calm.extract rfl rfl rfl) ?_
  refine AO.c (Calm.extract rfl rfl rfl) ?_
  refine AO.alloc rfl 7 rfl (by decide) rfl zr30 lay30 fun n6 => ?_
  refine AO.store (X' := (e30 t5.1)) 0 rfl rfl rfl rfl rfl rfl (Put.cast Put.here rfl) rfl rfl sz30 rfl ?_
  refine AO.c (Calm.assign rfl rfl) ?_
  refine AO.nH [7, 8] (H' := [(n6, (.mem (e30 t5.1)))]) (Sub.cons 0 rfl (Sub.nil _)) ?_
  refine AW.seq ?_
  refine AW.sr ?_
  refine AO.c (Calm.move rfl rfl) ?_
  refine AO.c (x := eBool (decide (t5.2 ≠ (0 : Int)))) (Calm.int rfl rfl rfl rfl) ?_
  refine AO.nK [7, 8, 18] ?_
  rcases of_ite h with ⟨hc7, h⟩ | ⟨hc7, h⟩
  ·refine AW.condP _ rfl hc7 ?_
   refine AW.sr ?_
   refine AO.c (Calm.move rfl rfl) ?_
   refine AO.c (Calm.assign rfl rfl) ?_
   refine AO.c (Calm.assign rfl rfl) ?_
   refine AO.c (Calm.assign rfl rfl) ?_
   refine AO.nH [4, 5, 6] (H' := []) (Sub.nil _) ?_
   refine AW.rK [4, 5, 6] ?_
   have hr := Option.some.inj h
   subst hr
   exact ⟨[(eBool false), (eStr (ByteArray.mk #[])), (eI64 t5.2)], ⟨rfl, rfl, rfl, rfl, rfl, rfl, trivial⟩, rfl⟩
  ·refine AW.condN _ rfl hc7 ?_
   refine AW.sK [7] ?_
   refine AW.sr ?_
   refine AO.c (Calm.load 0 rfl rfl rfl (At.cast At.here rfl) ag30 sz30) ?_
   obtain ⟨t8, et8, h⟩ := of_bind h
   refine AO.callS [(e30 t5.1)] (.tup [(eStr t8.1), (eBool t8.2)]) 22 rfl (by decide) ok75 rfl rfl rfl ⟨rfl, rfl, trivial⟩ (lang_Shortest_spec et8) ?_
   refine AO.c (Calm.move rfl rfl) ?_
   refine AO.c (Calm.extract rfl rfl rfl) ?_
   refine AO.c (Calm.extract rfl rfl rfl) ?_
   refine AO.c (Calm.assign rfl rfl) ?_
   refine AO.c (Calm.assign rfl rfl) ?_
   refine AO.nH [9, 10] (H' := []) (Sub.nil _) ?_
   refine AW.sr ?_
   refine AO.c (Calm.move rfl rfl) ?_
   refine AO.c (Calm.not rfl rfl) ?_
   refine AO.c (Calm.move rfl rfl) ?_
   refine AO.c (Calm.assign rfl rfl) ?_
   refine AO.c (Calm.assign rfl rfl) ?_
   refine AO.c (Calm.assign rfl rfl) ?_
   refine AO.nK [4, 5, 6] ?_
   refine AW.rK [4, 5, 6] ?_
   have hr := Option.some.inj h
   subst hr
   exact ⟨[(eBool (!t8.2)), (eStr t8.1), (eI64 (0 : Int))], ⟨rfl, rfl, rfl, rfl, rfl, rfl, trivial⟩, rfl⟩
end Go.Avl.T5
/- bosket/lang.Within; printed by avmain.py. -/
namespace Go.Avl.T5
open Go Go.RowKit Go.Proofs Go.Avl
set_option linter.unusedVariables false
set_option maxRecDepth 100000
set_option maxHeartbeats 4000000
attribute [local irreducible] AW AO AQ Spec SpecH Calm

def lang_Within (k : Nat) (p0 : S30) (p1 : S30) : Option (Bool × ByteArray × Int) :=
  (lang_Pair k (2 : Int) p0 p1).bind fun t5 =>
  if t5.2 ≠ (0 : Int) then some (false, (ByteArray.mk #[]), t5.2)
  else (lang_Shortest k t5.1).bind fun t8 =>
  some (!t8.2, t8.1, (0 : Int))
theorem lang_Within_spec {k : Nat} {p0 : S30} {p1 : S30} {r : (Bool × ByteArray × Int)} (h : lang_Within k p0 p1 = some r) : Spec Try.prog 45 [(e30 p0), (e30 p1)] (.tup [(eBool r.1), (eStr r.2.1), (eI64 r.2.2)]) := by
  rw [lang_Within.eq_1] at h
  refine Spec.intro (res := [.tmp 4, .tmp 5, .tmp 6]) Try.func45 rfl rfl rfl (Nat.le_of_ble_eq_true rfl) ?_
  refine AW.sr ?_
  refine AO.box rfl 2 rfl (by decide) rfl rfl rfl fun n3 => ?_
  refine AO.box rfl 3 rfl (by decide) rfl rfl rfl fun n4 => ?_
  refine AO.c (Calm.assign rfl rfl) ?_
  refine AO.c (Calm.assign rfl rfl) ?_
  refine AO.c (Calm.assign rfl rfl) ?_
  refine AO.nH [2, 3] (H' := [(n3, (.mem (e30 p0))), (n4, (.mem (e30 p1)))]) (Sub.cons 1 rfl (Sub.cons 0 rfl (Sub.nil _))) ?_
  refine AW.sr ?_
  refine AO.c (Calm.load 0 rfl rfl rfl (At.cast At.here rfl) ag30 sz30) ?_
  refine AO.c (Calm.load 1 rfl rfl rfl (At.cast At.here rfl) ag30 sz30) ?_
  obtain ⟨t5, et5, h⟩ := of_bind h
  refine AO.callS [(eI64 (2 : Int)), (e30 p0), (e30 p1)] (.tup [(e30 t5.1), (eI64 t5.2)]) 14 rfl (by decide) ok78 rfl rfl rfl ⟨rfl, rfl, rfl, rfl, rfl, rfl, trivial⟩ (lang_Pair_spec et5) ?_
  refine AO.c (Calm.move rfl rfl) ?_
  refine AO.c (Calm.extract rfl rfl rfl) ?_
  refine AO.c (Calm.extract rfl rfl rfl) ?_
  refine AO.alloc rfl 7 rfl (by decide) rfl zr30 lay30 fun n6 => ?_
  refine AO.store (X' := (e30 t5.1)) 0 rfl rfl rfl rfl rfl rfl (Put.cast Put.here rfl) rfl rfl sz30 rfl ?_
  refine AO.c (Calm.assign rfl rfl) ?_
  refine AO.nH [7, 8] (H' := [(n6, (.mem (e30 t5.1)))]) (Sub.cons 0 rfl (Sub.nil _)) ?_
  refine AW.seq ?_
  refine AW.sr ?_
  refine AO.c (Calm.move rfl rfl) ?_
  refine AO.c (x := eBool (decide (t5.2 ≠ (0 : Int)))) (Calm.int rfl rfl rfl rfl) ?_
  refine AO.nK [7, 8, 18] ?_
  rcases of_ite h with ⟨hc7, h⟩ | ⟨hc7, h⟩
  ·refine AW.condP _ rfl hc7 ?_
   refine AW.sr ?_
   refine AO.c (Calm.move rfl rfl) ?_
   refine AO.c (Calm.assign rfl rfl) ?_
   refine AO.c (Calm.assign rfl rfl) ?_
   refine AO.c (Calm.assign rfl rfl) ?_
   refine AO.nH [4, 5, 6] (H' := []) (Sub.nil _) ?_
   refine AW.rK [4, 5, 6] ?_
   have hr := Option.some.inj h
   subst hr
   exact ⟨[(eBool false), (eStr (ByteArray.mk #[])), (eI64 t5.2)], ⟨rfl, rfl, rfl, rfl, rfl, rfl, trivial⟩, rfl⟩
  ·refine AW.condN _ rfl hc7 ?_
   refine AW.sK [7] ?_
   refine AW.sr ?_
   refine AO.c (Calm.load 0 rfl rfl rfl (At.cast At.here rfl) ag30 sz30) ?_
   obtain ⟨t8, et8, h⟩ := of_bind h
   refine AO.callS [(e30 t5.1)] (.tup [(eStr t8.1), (eBool t8.2)]) 22 rfl (by decide) ok75 rfl rfl rfl ⟨rfl, rfl, trivial⟩ (lang_Shortest_spec et8) ?_
   refine AO.c (Calm.move rfl rfl) ?_
   refine AO.c (Calm.extract rfl rfl rfl) ?_
   refine AO.c (Calm.extract rfl rfl rfl) ?_
   refine AO.c (Calm.assign rfl rfl) ?_
   refine AO.c (Calm.assign rfl rfl) ?_
   refine AO.nH [9, 10] (H' := []) (Sub.nil _) ?_
   refine AW.sr ?_
   refine AO.c (Calm.move rfl rfl) ?_
   refine AO.c (Calm.not rfl rfl) ?_
   refine AO.c (Calm.move rfl rfl) ?_
   refine AO.c (Calm.assign rfl rfl) ?_
   refine AO.c (Calm.assign rfl rfl) ?_
   refine AO.c (Calm.assign rfl rfl) ?_
   refine AO.nK [4, 5, 6] ?_
   refine AW.rK [4, 5, 6] ?_
   have hr := Option.some.inj h
   subst hr
   exact ⟨[(eBool (!t8.2)), (eStr t8.1), (eI64 (0 : Int))], ⟨rfl, rfl, rfl, rfl, rfl, rfl, trivial⟩, rfl⟩
end Go.Avl.T5
/- bosket/bosketref08.Step; printed by avmain.py. -/
namespace Go.Avl.T5
open Go Go.RowKit Go.Proofs Go.Avl
set_option linter.unusedVariables false
set_option maxRecDepth 100000
set_option maxHeartbeats 4000000
attribute [local irreducible] AW AO AQ Spec SpecH Calm

def bosketref08_Step (k : Nat) (p0 : S30) (p1 : Int) (p2 : Int) : Option Int :=
  Option.bind (α := Bool) (if p1 < (0 : Int) then some (true)
  else if (p0.f1.length : Int) ≤ p1 then some (true)
  else if 0 ≤ p2 ∧ p2 < (256 : Int) then if 0 ≤ p1 ∧ p1 < (p0.f1.length : Int) then some (decide (((lget p0.f1 p1).length : Int) ≤ (w64 (vget p0.f0 p2))))
  else none
  else none) fun b5 =>
  if b5 = true then some ((-1 : Int))
  else if 0 ≤ p1 ∧ p1 < (p0.f1.length : Int) then if 0 ≤ p2 ∧ p2 < (256 : Int) then if 0 ≤ (vget p0.f0 p2) ∧ (vget p0.f0 p2) < ((lget p0.f1 p1).length : Int) then some ((lget (lget p0.f1 p1) (vget p0.f0 p2)))
  else none
  else none
  else none
theorem bosketref08_Step_spec {k : Nat} {p0 : S30} {p1 : Int} {p2 : Int} {r : Int} (h : bosketref08_Step k p0 p1 p2 = some r) : Spec Try.prog 74 [(e30 p0), (eI64 p1), (eI64 p2)] (eI64 r) := by
  rw [bosketref08_Step.eq_1] at h
  refine Spec.intro (res := [.tmp 6]) Try.func74 rfl rfl rfl (Nat.le_of_ble_eq_true rfl) ?_
  refine AW.sr ?_
  refine AO.box rfl 3 rfl (by decide) rfl rfl rfl fun n4 => ?_
  refine AO.c (Calm.assign rfl rfl) ?_
  refine AO.nK [1, 2, 3] ?_
  refine AW.seq ?_
  refine AW.seq ?_
  obtain ⟨b5, hq6, h⟩ := of_bind h
  refine AW.regQM (by rfl) (by decide +kernel) [(1, (eI64 p1)), (2, (eI64 p2)), (3, (.ptr n4 0)), (29, (eBool b5))] ?_ ?_
  ·refine AQ.c (Calm.move rfl rfl) ?_
   refine AQ.c (x := eBool (decide (p1 < (0 : Int)))) (Calm.int rfl rfl rfl rfl) ?_
   refine AQ.c (Calm.move rfl rfl) ?_
   rcases of_ite hq6 with ⟨hc7, hq6⟩ | ⟨hc7, hq6⟩
   ·refine AQ.sF rfl rfl (bD (decide_eq_true hc7)) ?_
    refine AQ.sF rfl rfl (bD (decide_eq_true hc7)) ?_
    refine AQ.sF rfl rfl (bD (decide_eq_true hc7)) ?_
    refine AQ.sF rfl rfl (bD (decide_eq_true hc7)) ?_
    refine AQ.sF rfl rfl (bD (decide_eq_true hc7)) ?_
    refine AQ.c (Calm.pickT rfl (bD (decide_eq_true hc7)) rfl) ?_
    refine AQ.c (Calm.move rfl rfl) ?_
    refine AQ.sF rfl rfl rfl ?_
    refine AQ.sF rfl rfl rfl ?_
    refine AQ.sF rfl rfl rfl ?_
    refine AQ.sF rfl rfl rfl ?_
    refine AQ.sF rfl rfl rfl ?_
    refine AQ.sF rfl rfl rfl ?_
    refine AQ.sF rfl rfl rfl ?_
    refine AQ.sF rfl rfl rfl ?_
    refine AQ.sF rfl rfl rfl ?_
    refine AQ.sF rfl rfl rfl ?_
    refine AQ.sF rfl rfl rfl ?_
    refine AQ.sF rfl rfl rfl ?_
    refine AQ.c (Calm.pickT rfl rfl rfl) ?_
    cases hq6
    refine AQ.nilE rfl ?_
    exact ⟨rfl, rfl, rfl, rfl, trivial⟩
   ·refine AQ.cG rfl rfl (bD (decide_eq_false hc7)) (Calm.move rfl rfl) ?_
    refine AQ.cG (x := .ptr n4 256) rfl rfl (bD (decide_eq_false hc7)) (Calm.fldPtr rfl rfl Try.underlying30 rfl sz28 _ rfl) ?_
    refine AQ.cG rfl rfl (bD (decide_eq_false hc7)) (Calm.load 0 rfl rfl rfl (At.cast (At.fldS (At.fld0 At.here)) rfl) ag28 sz28) ?_
    refine AQ.cG rfl rfl (bD (decide_eq_false hc7)) (Calm.lenL rfl rfl Try.underlying28) ?_
    refine AQ.cG (x := eBool (decide ((p0.f1.length : Int) ≤ p1))) rfl rfl (bD (decide_eq_false hc7)) (Calm.int rfl rfl rfl rfl) ?_
    refine AQ.c (Calm.pickF rfl (bD (decide_eq_false hc7)) rfl) ?_
    refine AQ.c (Calm.move rfl rfl) ?_
    rcases of_ite hq6 with ⟨hc8, hq6⟩ | ⟨hc8, hq6⟩
    ·refine AQ.sF rfl rfl (bD (decide_eq_true hc8)) ?_
     refine AQ.sF rfl rfl (bD (decide_eq_true hc8)) ?_
     refine AQ.sF rfl rfl (bD (decide_eq_true hc8)) ?_
     refine AQ.sF rfl rfl (bD (decide_eq_true hc8)) ?_
     refine AQ.sF rfl rfl (bD (decide_eq_true hc8)) ?_
     refine AQ.sF rfl rfl (bD (decide_eq_true hc8)) ?_
     refine AQ.sF rfl rfl (bD (decide_eq_true hc8)) ?_
     refine AQ.sF rfl rfl (bD (decide_eq_true hc8)) ?_
     refine AQ.sF rfl rfl (bD (decide_eq_true hc8)) ?_
     refine AQ.sF rfl rfl (bD (decide_eq_true hc8)) ?_
     refine AQ.sF rfl rfl (bD (decide_eq_true hc8)) ?_
     refine AQ.sF rfl rfl (bD (decide_eq_true hc8)) ?_
     refine AQ.c (Calm.pickT rfl (bD (decide_eq_true hc8)) rfl) ?_
     cases hq6
     refine AQ.nilE rfl ?_
     exact ⟨rfl, rfl, rfl, rfl, trivial⟩
    ·refine AQ.cG rfl rfl (bD (decide_eq_false hc8)) (Calm.move rfl rfl) ?_
     refine AQ.cG (x := .ptr n4 0) rfl rfl (bD (decide_eq_false hc8)) (Calm.fldPtr rfl rfl Try.underlying30 rfl sz27 _ rfl) ?_
     obtain ⟨hg9, hq6⟩ := of_guard hq6
     refine AQ.cG rfl rfl (bD (decide_eq_false hc8)) (Calm.idxP rfl rfl rfl hg9 Try.underlying27 sz5) ?_
     refine AQ.cG rfl rfl (bD (decide_eq_false hc8)) (Calm.load 0 rfl rfl rfl (At.cast (At.fld0 (At.vidx p2 hg9.1 hg9.2 At.here)) (by omega)) ag5 sz5) ?_
     refine AQ.cG (x := eI64 (w64 (vget p0.f0 p2))) rfl rfl (bD (decide_eq_false hc8)) (Calm.conv rfl rfl Try.underlying5 Try.underlying3) ?_
     refine AQ.cG (x := .ptr n4 256) rfl rfl (bD (decide_eq_false hc8)) (Calm.fldPtr rfl rfl Try.underlying30 rfl sz28 _ rfl) ?_
     refine AQ.cG rfl rfl (bD (decide_eq_false hc8)) (Calm.load 0 rfl rfl rfl (At.cast (At.fldS (At.fld0 At.here)) rfl) ag28 sz28) ?_
     refine AQ.cG rfl rfl (bD (decide_eq_false hc8)) (Calm.move rfl rfl) ?_
     obtain ⟨hg10, hq6⟩ := of_guard hq6
     refine AQ.cG rfl rfl (bD (decide_eq_false hc8)) (Calm.idxL (f := e25) rfl rfl rfl hg10 Try.underlying28 sz25) ?_
     refine AQ.cG rfl rfl (bD (decide_eq_false hc8)) (Calm.loadRp rfl rfl ag25 sz25) ?_
     refine AQ.cG rfl rfl (bD (decide_eq_false hc8)) (Calm.lenL rfl rfl Try.underlying25) ?_
     refine AQ.cG (x := eBool (decide (((lget p0.f1 p1).length : Int) ≤ (w64 (vget p0.f0 p2))))) rfl rfl (bD (decide_eq_false hc8)) (Calm.int rfl rfl rfl rfl) ?_
     refine AQ.c (Calm.pickF rfl (bD (decide_eq_false hc8)) rfl) ?_
     cases hq6
     refine AQ.nilE rfl ?_
     exact ⟨rfl, rfl, rfl, rfl, trivial⟩
  ·rcases of_ite h with ⟨hc11, h⟩ | ⟨hc11, h⟩
   ·refine AW.condT' _ rfl hc11 ?_
    refine AW.sr ?_
    refine AO.c (Calm.assign rfl rfl) ?_
    refine AO.nH [6] (H' := []) (Sub.nil _) ?_
    refine AW.rK [6] ?_
    have hr := Option.some.inj h
    subst hr
    exact ⟨[(eI64 (-1 : Int))], ⟨rfl, rfl, trivial⟩, rfl⟩
   ·refine AW.condF' _ rfl hc11 ?_
    refine AW.sK [1, 2, 3] ?_
    refine AW.seq ?_
    refine AW.regQ (by rfl) (by decide +kernel) ?_
    refine AQ.c (x := .ptr n4 256) (Calm.fldPtr rfl rfl Try.underlying30 rfl sz28 _ rfl) ?_
    refine AQ.c (Calm.load 0 rfl rfl rfl (At.cast (At.fldS (At.fld0 At.here)) rfl) ag28 sz28) ?_
    refine AQ.c (Calm.move rfl rfl) ?_
    obtain ⟨hg12, h⟩ := of_guard h
    refine AQ.c (Calm.idxL (f := e25) rfl rfl rfl hg12 Try.underlying28 sz25) ?_
    refine AQ.c (Calm.loadRp rfl rfl ag25 sz25) ?_
    refine AQ.c (Calm.move rfl rfl) ?_
    refine AQ.c (x := .ptr n4 0) (Calm.fldPtr rfl rfl Try.underlying30 rfl sz27 _ rfl) ?_
    obtain ⟨hg13, h⟩ := of_guard h
    refine AQ.c (Calm.idxP rfl rfl rfl hg13 Try.underlying27 sz5) ?_
    refine AQ.c (Calm.load 0 rfl rfl rfl (At.cast (At.fld0 (At.vidx p2 hg13.1 hg13.2 At.here)) (by omega)) ag5 sz5) ?_
    obtain ⟨hg14, h⟩ := of_guard h
    refine AQ.c (Calm.idxL (f := eI64) rfl rfl rfl hg14 Try.underlying25 sz3) ?_
    refine AQ.c (Calm.loadRp rfl rfl ag3 sz3) ?_
    refine AQ.c (Calm.assign rfl rfl) ?_
    refine AQ.nK [6] ?_
    refine AW.rH [6] (H' := []) (Sub.nil _) ?_
    have hr := Option.some.inj h
    subst hr
    exact ⟨[(eI64 (lget (lget p0.f1 p1) (vget p0.f0 p2)))], ⟨rfl, rfl, trivial⟩, rfl⟩
end Go.Avl.T5
/- bosket/bosketref08.Run; printed by avmain.py. -/
namespace Go.Avl.T5
open Go Go.RowKit Go.Proofs Go.Avl
set_option linter.unusedVariables false
set_option maxRecDepth 100000
set_option maxHeartbeats 4000000
attribute [local irreducible] AW AO AQ Spec SpecH Calm

def bosketref08_Run_c0 (k : Nat) (x5 : Int) : Option Int :=
  some (x5)
def bosketref08_Run_l1 (k : Nat) (p0 : S30) (p2 : ByteArray) : Nat → Int → Int → Option Int
  | 0, _, _ => none
  | j + 1, x6, x7 =>
    if x7 < (p2.size : Int) then if 0 ≤ x7 ∧ x7 < (p2.size : Int) then (bosketref08_Step k p0 x6 (w64 (byteAt p2 x7))).bind fun t12 =>
    (bosketref08_Run_l1 k p0 p2 j) t12 (w64 (x7 + (1 : Int)))
    else none
    else bosketref08_Run_c0 k x6
def bosketref08_Run (k : Nat) (p0 : S30) (p1 : Int) (p2 : ByteArray) : Option Int :=
  bosketref08_Run_l1 k p0 p2 k p1 (0 : Int)
theorem bosketref08_Run_spec {k : Nat} {p0 : S30} {p1 : Int} {p2 : ByteArray} {r : Int} (h : bosketref08_Run k p0 p1 p2 = some r) : Spec Try.prog 42 [(e30 p0), (eI64 p1), (eStr p2)] (eI64 r) := by
  rw [bosketref08_Run.eq_1] at h
  refine Spec.intro (res := [.tmp 6]) Try.func42 rfl rfl rfl (Nat.le_of_ble_eq_true rfl) ?_
  refine AW.sr ?_
  refine AO.box rfl 3 rfl (by decide) rfl rfl rfl fun n4 => ?_
  refine AO.c (Calm.assign rfl rfl) ?_
  refine AO.nK [1, 2, 3] ?_
  refine AW.seq_mid (fun ρ H => ∃ (x5 : Int), ρ = [(1, (eI64 x5))] ∧ H = [] ∧ bosketref08_Run_c0 k x5 = some r) ?_ ?_
  ·refine AW.sr ?_
   refine AO.c (Calm.assign rfl rfl) ?_
   refine AO.nK [1, 2, 3, 7] ?_
   refine AW.block ?_
   refine AW.wK [1, 2, 3, 7] ?_
   refine AW.loop (fun kq ρ H => ∃ (x6 : Int) (x7 : Int), ρ = [(1, (eI64 x6)), (2, (eStr p2)), (3, (.ptr n4 0)), (7, (eI64 x7))] ∧ H = [(n4, (.mem (e30 p0)))] ∧ bosketref08_Run_l1 k p0 p2 kq x6 x7 = some r) k ⟨p1, (0 : Int), rfl, rfl, h⟩ ?_
   rintro kq9 _ _ ⟨x6, x7, rfl, rfl, h⟩
   cases kq9 with
   | zero => rw [bosketref08_Run_l1.eq_1] at h; cases h
   | succ kq9 =>
   rw [bosketref08_Run_l1.eq_2] at h
   generalize hrec8 : bosketref08_Run_l1 k p0 p2 kq9 = rec8 at h
   refine AW.seq ?_
   refine AW.sr ?_
   refine AO.c (Calm.move rfl rfl) ?_
   refine AO.c (Calm.move rfl rfl) ?_
   refine AO.c (Calm.lenStr rfl rfl Try.underlying9) ?_
   refine AO.c (x := eBool (decide (x7 < (p2.size : Int)))) (Calm.int rfl rfl rfl rfl) ?_
   refine AO.nK [1, 2, 3, 7, 11] ?_
   rcases of_ite h with ⟨hc10, h⟩ | ⟨hc10, h⟩
   ·refine AW.condP _ rfl hc10 ?_
    refine AW.sK [1, 2, 3, 7] ?_
    refine AW.seq ?_
    refine AW.block ?_
    refine AW.regQ (by rfl) (by decide +kernel) ?_
    refine AQ.c (Calm.load 0 rfl rfl rfl (At.cast At.here rfl) ag30 sz30) ?_
    refine AQ.c (Calm.move rfl rfl) ?_
    refine AQ.c (Calm.move rfl rfl) ?_
    refine AQ.c (Calm.move rfl rfl) ?_
    obtain ⟨hg11, h⟩ := of_guard h
    refine AQ.c (x := eU8 (byteAt p2 x7)) (Calm.idxS rfl rfl rfl hg11 Try.underlying9) ?_
    refine AQ.c (x := eI64 (w64 (byteAt p2 x7))) (Calm.conv rfl rfl Try.underlying5 Try.underlying3) ?_
    obtain ⟨t12, et12, h⟩ := of_bind h
    refine AQ.c (Calm.call (args := [(e30 p0), (eI64 x6), (eI64 (w64 (byteAt p2 x7)))]) rfl rfl ok74 ⟨rfl, rfl, rfl, rfl, rfl, rfl, trivial⟩ rfl (bosketref08_Step_spec et12)) ?_
    refine AQ.c (Calm.assign rfl rfl) ?_
    refine AQ.nK [1, 2, 3, 7] ?_
    refine AW.reg ?_
    refine AO.c (Calm.move rfl rfl) ?_
    refine AO.c (x := eI64 (w64 (x7 + (1 : Int)))) (Calm.int rfl rfl rfl rfl) ?_
    refine AO.c (Calm.assign rfl rfl) ?_
    refine AO.nK [1, 2, 3, 7] ?_
    exact ⟨kq9, Nat.lt_succ_self _, t12, (w64 (x7 + (1 : Int))), rfl, rfl, by rw [hrec8]; exact h⟩
   ·refine AW.condN _ rfl hc10 ?_
    refine AW.eH [1] (H' := []) (Sub.nil _) ?_
    exact ⟨x6, rfl, rfl, h⟩
  ·rintro _ _ ⟨x5, rfl, rfl, h⟩
   rw [bosketref08_Run_c0.eq_1] at h
   refine AW.sr ?_
   refine AO.c (Calm.move rfl rfl) ?_
   refine AO.c (Calm.assign rfl rfl) ?_
   refine AO.nK [6] ?_
   refine AW.rK [6] ?_
   have hr := Option.some.inj h
   subst hr
   exact ⟨[(eI64 x5)], ⟨rfl, rfl, trivial⟩, rfl⟩
end Go.Avl.T5
/- bosket/bosketref08.Mark; printed by avmain.py. -/
namespace Go.Avl.T5
open Go Go.RowKit Go.Proofs Go.Avl
set_option linter.unusedVariables false
set_option maxRecDepth 100000
set_option maxHeartbeats 4000000
attribute [local irreducible] AW AO AQ Spec SpecH Calm

def bosketref08_Mark (k : Nat) (p0 : S30) (p1 : Int) : Option Int :=
  Option.bind (α := Bool) (if p1 < (0 : Int) then some (true)
  else some (decide ((p0.f2.length : Int) ≤ p1))) fun b4 =>
  if b4 = true then some ((-1 : Int))
  else if 0 ≤ p1 ∧ p1 < (p0.f2.length : Int) then some ((lget p0.f2 p1))
  else none
theorem bosketref08_Mark_spec {k : Nat} {p0 : S30} {p1 : Int} {r : Int} (h : bosketref08_Mark k p0 p1 = some r) : Spec Try.prog 41 [(e30 p0), (eI64 p1)] (eI64 r) := by
  rw [bosketref08_Mark.eq_1] at h
  refine Spec.intro (res := [.tmp 4]) Try.func41 rfl rfl rfl (Nat.le_of_ble_eq_true rfl) ?_
  refine AW.sr ?_
  refine AO.box rfl 2 rfl (by decide) rfl rfl rfl fun n3 => ?_
  refine AO.c (Calm.assign rfl rfl) ?_
  refine AO.nK [1, 2] ?_
  refine AW.seq ?_
  refine AW.seq ?_
  obtain ⟨b4, hq5, h⟩ := of_bind h
  refine AW.regM [(1, (eI64 p1)), (2, (.ptr n3 0)), (13, (eBool b4))] [(n3, (.mem (e30 p0)))] ?_ ?_
  ·refine AO.c (Calm.move rfl rfl) ?_
   refine AO.c (x := eBool (decide (p1 < (0 : Int)))) (Calm.int rfl rfl rfl rfl) ?_
   refine AO.c (Calm.move rfl rfl) ?_
   rcases of_ite hq5 with ⟨hc6, hq5⟩ | ⟨hc6, hq5⟩
   ·refine AO.sF rfl rfl (bD (decide_eq_true hc6)) ?_
    refine AO.sF rfl rfl (bD (decide_eq_true hc6)) ?_
    refine AO.sF rfl rfl (bD (decide_eq_true hc6)) ?_
    refine AO.sF rfl rfl (bD (decide_eq_true hc6)) ?_
    refine AO.sF rfl rfl (bD (decide_eq_true hc6)) ?_
    refine AO.c (Calm.pickT rfl (bD (decide_eq_true hc6)) rfl) ?_
    cases hq5
    refine AO.nilE ⟨rfl, rfl⟩ ?_ ?_
    · exact ⟨rfl, rfl, rfl, trivial⟩
    · exact (Sub.refl _)
   ·refine AO.cG rfl rfl (bD (decide_eq_false hc6)) (Calm.move rfl rfl) ?_
    refine AO.cG (x := .ptr n3 257) rfl rfl (bD (decide_eq_false hc6)) (Calm.fldPtr rfl rfl Try.underlying30 rfl sz25 _ rfl) ?_
    refine AO.cG rfl rfl (bD (decide_eq_false hc6)) (Calm.load 0 rfl rfl rfl (At.cast (At.fldS (At.fldS (At.fld0 At.here))) rfl) ag25 sz25) ?_
    refine AO.cG rfl rfl (bD (decide_eq_false hc6)) (Calm.lenL rfl rfl Try.underlying25) ?_
    refine AO.cG (x := eBool (decide ((p0.f2.length : Int) ≤ p1))) rfl rfl (bD (decide_eq_false hc6)) (Calm.int rfl rfl rfl rfl) ?_
    refine AO.c (Calm.pickF rfl (bD (decide_eq_false hc6)) rfl) ?_
    cases hq5
    refine AO.nilE ⟨rfl, rfl⟩ ?_ ?_
    · exact ⟨rfl, rfl, rfl, trivial⟩
    · exact (Sub.refl _)
  ·rcases of_ite h with ⟨hc7, h⟩ | ⟨hc7, h⟩
   ·refine AW.condT' _ rfl hc7 ?_
    refine AW.sr ?_
    refine AO.c (Calm.assign rfl rfl) ?_
    refine AO.nH [4] (H' := []) (Sub.nil _) ?_
    refine AW.rK [4] ?_
    have hr := Option.some.inj h
    subst hr
    exact ⟨[(eI64 (-1 : Int))], ⟨rfl, rfl, trivial⟩, rfl⟩
   ·refine AW.condF' _ rfl hc7 ?_
    refine AW.sK [1, 2] ?_
    refine AW.sr ?_
    refine AO.c (x := .ptr n3 257) (Calm.fldPtr rfl rfl Try.underlying30 rfl sz25 _ rfl) ?_
    refine AO.c (Calm.load 0 rfl rfl rfl (At.cast (At.fldS (At.fldS (At.fld0 At.here))) rfl) ag25 sz25) ?_
    refine AO.c (Calm.move rfl rfl) ?_
    obtain ⟨hg8, h⟩ := of_guard h
    refine AO.c (Calm.idxL (f := eI64) rfl rfl rfl hg8 Try.underlying25 sz3) ?_
    refine AO.c (Calm.loadRp rfl rfl ag3 sz3) ?_
    refine AO.c (Calm.assign rfl rfl) ?_
    refine AO.nH [4] (H' := []) (Sub.nil _) ?_
    refine AW.rK [4] ?_
    have hr := Option.some.inj h
    subst hr
    exact ⟨[(eI64 (lget p0.f2 p1))], ⟨rfl, rfl, trivial⟩, rfl⟩
end Go.Avl.T5
/- bosket/bosketlaw10.has; printed by avmain.py. -/
namespace Go.Avl.T5
open Go Go.RowKit Go.Proofs Go.Avl
set_option linter.unusedVariables false
set_option maxRecDepth 100000
set_option maxHeartbeats 4000000
attribute [local irreducible] AW AO AQ Spec SpecH Calm

def bosketlaw10_has (k : Nat) (p0 : S30) (p1 : ByteArray) : Option Bool :=
  (bosketref08_Run k p0 (0 : Int) p1).bind fun t4 =>
  (bosketref08_Mark k p0 t4).bind fun t5 =>
  some (decide ((0 : Int) ≤ t5))
theorem bosketlaw10_has_spec {k : Nat} {p0 : S30} {p1 : ByteArray} {r : Bool} (h : bosketlaw10_has k p0 p1 = some r) : Spec Try.prog 46 [(e30 p0), (eStr p1)] (eBool r) := by
  rw [bosketlaw10_has.eq_1] at h
  refine Spec.intro (res := [.tmp 4]) Try.func46 rfl rfl rfl (Nat.le_of_ble_eq_true rfl) ?_
  refine AW.sr ?_
  refine AO.box rfl 2 rfl (by decide) rfl rfl rfl fun n3 => ?_
  refine AO.c (Calm.assign rfl rfl) ?_
  refine AO.nK [1, 2] ?_
  refine AW.seq ?_
  refine AW.regQ (by rfl) (by decide +kernel) ?_
  refine AQ.c (Calm.load 0 rfl rfl rfl (At.cast At.here rfl) ag30 sz30) ?_
  refine AQ.c (Calm.load 0 rfl rfl rfl (At.cast At.here rfl) ag30 sz30) ?_
  refine AQ.c (Calm.move rfl rfl) ?_
  obtain ⟨t4, et4, h⟩ := of_bind h
  refine AQ.c (Calm.call (args := [(e30 p0), (eI64 (0 : Int)), (eStr p1)]) rfl rfl ok42 ⟨rfl, rfl, rfl, rfl, rfl, rfl, trivial⟩ rfl (bosketref08_Run_spec et4)) ?_
  obtain ⟨t5, et5, h⟩ := of_bind h
  refine AQ.c (Calm.call (args := [(e30 p0), (eI64 t4)]) rfl rfl ok41 ⟨rfl, rfl, rfl, rfl, trivial⟩ rfl (bosketref08_Mark_spec et5)) ?_
  refine AQ.c (x := eBool (decide ((0 : Int) ≤ t5))) (Calm.int rfl rfl rfl rfl) ?_
  refine AQ.c (Calm.assign rfl rfl) ?_
  refine AQ.nK [4] ?_
  refine AW.rH [4] (H' := []) (Sub.nil _) ?_
  have hr := Option.some.inj h
  subst hr
  exact ⟨[(eBool (decide ((0 : Int) ≤ t5)))], ⟨rfl, rfl, trivial⟩, rfl⟩
end Go.Avl.T5
