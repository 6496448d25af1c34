/- Parts: T2f62, T2f26, T2f28, T2f21. -/
import Derived.Test.YtmgiffbobkgcmaaAF1
import Derived.Test.YtmgiffbobkgcmaaAF6
import Derived.Test.YtmgiffbobkgcmaaAF5
import Derived.Test.YtmgiffbobkgcmaaAF2
/- (*bosket/ast.reader).tree, (*bosket/ast.reader).node; printed by avmain.py. -/
namespace Go.Avl.T2
open Go Go.RowKit Go.Proofs Go.Avl
set_option linter.unusedVariables false
set_option maxRecDepth 100000
set_option maxHeartbeats 4000000
attribute [local irreducible] AW AO AQ Spec SpecH Calm

def ast_reader_node_c0 (k : Nat) (t3 : (Int × Bool × S88)) (x5 : ByteArray) (x6 : Int) (x7 : Int) (b8 : Bool) (x10 : (List (List S43))) : Option ((List S43) × Bool × S88) :=
  Option.bind (α := Bool) (if (!b8) = true then some (true)
  else if (x5.size : Int) ≤ x6 then some (true)
  else if 0 ≤ x6 ∧ x6 < (x5.size : Int) then some (decide ((byteAt x5 x6) ≠ (41 : Int)))
  else none) fun b11 =>
  if b11 = true then some ([], false, (S88.mk x5 x6 (w64 (x7 - (1 : Int)))))
  else (ast_Join k (S43.mk false t3.1 (0 : Int) ByteArray.empty) x10).bind fun t17 =>
  some (t17, true, (S88.mk x5 (w64 (x6 + (1 : Int))) (w64 (x7 - (1 : Int)))))
def ast_reader_node_l1 (k : Nat) (self62 : (S88 → Option ((List S43) × Bool × S88))) (t3 : (Int × Bool × S88)) : Nat → ByteArray → Int → Int → Bool → (List (List S43)) → Option ((List S43) × Bool × S88)
  | 0, _, _, _, _, _ => none
  | j + 1, x18, x19, x20, b21, x23 =>
    Option.bind (α := Bool) (if b21 = true then if x19 < (x18.size : Int) then if 0 ≤ x19 ∧ x19 < (x18.size : Int) then some (decide ((byteAt x18 x19) = (32 : Int)))
    else none
    else some (false)
    else some (false)) fun b26 =>
    if b26 = true then (self62 (S88.mk x18 (w64 (x19 + (1 : Int))) x20)).bind fun t32 =>
    if (x23 ++ ([t32.1] : List (List S43))).length * 24 ≤ 140737488355328 then (ast_reader_node_l1 k self62 t3 j) t32.2.2.f0 t32.2.2.f1 t32.2.2.f2 t32.2.1 (x23 ++ ([t32.1] : List (List S43)))
    else none
    else ast_reader_node_c0 k t3 x18 x19 x20 b21 x23
mutual
def ast_reader_tree_r (k : Nat) : Nat → S88 → Option ((List S43) × Bool × S88)
  | 0, _ => none
  | j + 1, p0 =>
    Option.bind (α := Bool) (if p0.f1 < (p0.f0.size : Int) then if 0 ≤ p0.f1 ∧ p0.f1 < (p0.f0.size : Int) then some (decide ((byteAt p0.f0 p0.f1) = (40 : Int)))
    else none
    else some (false)) fun b2 =>
    if b2 = true then ((ast_reader_node_r k j) p0).bind fun t7 =>
    some (t7.1, t7.2.1, t7.2.2)
    else (ast_reader_number k p0).bind fun t9 =>
    Option.bind (α := Bool) (if (!t9.2.1) = true then some (true)
    else if (t9.2.2.f0.size : Int) ≤ t9.2.2.f1 then some (true)
    else if 0 ≤ t9.2.2.f1 ∧ t9.2.2.f1 < (t9.2.2.f0.size : Int) then some (decide ((byteAt t9.2.2.f0 t9.2.2.f1) ≠ (58 : Int)))
    else none) fun b11 =>
    if b11 = true then some ([], false, t9.2.2)
    else if 0 ≤ (w64 (t9.2.2.f1 + (1 : Int))) ∧ (w64 (t9.2.2.f1 + (1 : Int))) ≤ (t9.2.2.f0.size : Int) ∧ (t9.2.2.f0.size : Int) ≤ (t9.2.2.f0.size : Int) then (escape_Unquote k (t9.2.2.f0.extract (w64 (t9.2.2.f1 + (1 : Int))).toNat (t9.2.2.f0.size : Int).toNat) (34 : Int)).bind fun t18 =>
    some ([(S43.mk true t9.1 (0 : Int) t18.1)], t18.2.2, (S88.mk t9.2.2.f0 (w64 (t9.2.2.f1 + (w64 ((1 : Int) + t18.2.1)))) t9.2.2.f2))
    else none
def ast_reader_node_r (k : Nat) : Nat → S88 → Option ((List S43) × Bool × S88)
  | 0, _ => none
  | j + 1, p0 =>
    if (2000 : Int) < (w64 (p0.f2 + (1 : Int))) then some ([], false, (S88.mk p0.f0 (w64 (p0.f1 + (1 : Int))) (w64 (p0.f2 + (1 : Int)))))
    else (ast_reader_number k (S88.mk p0.f0 (w64 (p0.f1 + (1 : Int))) (w64 (p0.f2 + (1 : Int))))).bind fun t3 =>
    ast_reader_node_l1 k (ast_reader_tree_r k j) t3 k t3.2.2.f0 t3.2.2.f1 t3.2.2.f2 t3.2.1 []
end
def ast_reader_tree (k : Nat) (p0 : S88) : Option ((List S43) × Bool × S88) := ast_reader_tree_r k k p0
def ast_reader_node (k : Nat) (p0 : S88) : Option ((List S43) × Bool × S88) := ast_reader_node_r k k p0
theorem ast_reader_tree_all (k : Nat) : ∀ j : Nat, (∀ (p0 : S88) (r : ((List S43) × Bool × S88)), ast_reader_tree_r k j p0 = some r → ∀ (q0 : Nat) (T0 : Heap), SpecH Try.prog 62 [(.ptr q0 0)] ((q0, .mem (e88 p0)) :: T0) (fun x H' => x = .tup [(.fz 4 (r.1.map e43)), (eBool r.2.1)] ∧ Sub ((q0, .mem (e88 r.2.2)) :: T0) H')) ∧ (∀ (p0 : S88) (r : ((List S43) × Bool × S88)), ast_reader_node_r k j p0 = some r → ∀ (q0 : Nat) (T0 : Heap), SpecH Try.prog 83 [(.ptr q0 0)] ((q0, .mem (e88 p0)) :: T0) (fun x H' => x = .tup [(.fz 4 (r.1.map e43)), (eBool r.2.1)] ∧ Sub ((q0, .mem (e88 r.2.2)) :: T0) H')) := by
  intro j
  induction j with
  | zero => exact ⟨(by intro p0 r h; rw [ast_reader_tree_r.eq_1] at h; cases h), (by intro p0 r h; rw [ast_reader_node_r.eq_1] at h; cases h)⟩
  | succ j hself =>
  obtain ⟨hself62, hself83⟩ := hself
  refine ⟨?_, ?_⟩
  · intro p0 r h q0 T0
    rw [ast_reader_tree_r.eq_2] at h
    generalize hsself62 : ast_reader_tree_r k j = self62 at h hself62
    generalize hsself83 : ast_reader_node_r k j = self83 at h hself83
    refine SpecH.intro (res := [.tmp 2, .tmp 3]) Try.func62 rfl rfl rfl (Nat.le_of_ble_eq_true rfl) ?_
    refine AW.seq ?_
    refine AW.reg ?_
    refine AO.calm rfl 2 rfl (by decide) (.fl (.slice none 0 0)) (Calm.assign rfl rfl) ?_
    refine AO.calm rfl 3 rfl (by decide) (eBool false) (Calm.assign rfl rfl) ?_
    refine AO.nil (ρ' := [(0, (.ptr q0 0))]) (H' := ((q0, .mem (e88 p0)) :: T0)) ⟨rfl, trivial⟩ (Sub.refl _) ?_
    refine AW.seq ?_
    refine AW.seq ?_
    obtain ⟨b2, hq3, h⟩ := of_bind h
    refine AW.regQM (by rfl) (by decide +kernel) [(0, (.ptr q0 0)), (29, (eBool b2))] ?_ ?_
    · refine AQ.calm rfl 8 rfl (by decide) (.ptr q0 0) (Calm.move rfl rfl) ?_
      refine AQ.calm rfl 9 rfl (by decide) (.ptr q0 0) (Calm.nilCheck rfl rfl) ?_
      refine AQ.calm rfl 10 rfl (by decide) (.ptr q0 1) (Calm.fldPtr rfl rfl Try.underlying88 rfl sz3 _ rfl) ?_
      refine AQ.calm rfl 11 rfl (by decide) (eI64 p0.f1) (Calm.load 0 rfl rfl rfl (At.cast (At.fldS (At.fld0 At.here)) rfl) ag3 sz3) ?_
      refine AQ.calm rfl 12 rfl (by decide) (.ptr q0 0) (Calm.move rfl rfl) ?_
      refine AQ.calm rfl 13 rfl (by decide) (.ptr q0 0) (Calm.nilCheck rfl rfl) ?_
      refine AQ.calm rfl 14 rfl (by decide) (.ptr q0 0) (Calm.fldPtr rfl rfl Try.underlying88 rfl sz9 _ rfl) ?_
      refine AQ.calm rfl 15 rfl (by decide) (eStr p0.f0) (Calm.load 0 rfl rfl rfl (At.cast (At.fld0 At.here) rfl) ag9 sz9) ?_
      refine AQ.calm rfl 16 rfl (by decide) (eI64 (p0.f0.size : Int)) (Calm.lenStr rfl rfl Try.underlying9) ?_
      refine AQ.calm rfl 17 rfl (by decide) (eBool (decide (p0.f1 < (p0.f0.size : Int)))) (Calm.int rfl rfl rfl rfl) ?_
      refine AQ.calm rfl 18 rfl (by decide) (eBool (decide (p0.f1 < (p0.f0.size : Int)))) (Calm.move rfl rfl) ?_
      by_cases hc4 : p0.f1 < (p0.f0.size : Int)
      · have hq3 := (if_pos hc4).symm.trans hq3
        refine AQ.calmG 10 true 18 rfl rfl (congrArg (fun b => some (AV.fl (Value.bool b))) (decide_eq_true hc4)) 19 rfl (by decide) (.ptr q0 0) (Calm.move rfl rfl) ?_
        refine AQ.calmG 10 true 18 rfl rfl (congrArg (fun b => some (AV.fl (Value.bool b))) (decide_eq_true hc4)) 20 rfl (by decide) (.ptr q0 0) (Calm.nilCheck rfl rfl) ?_
        refine AQ.calmG 10 true 18 rfl rfl (congrArg (fun b => some (AV.fl (Value.bool b))) (decide_eq_true hc4)) 21 rfl (by decide) (.ptr q0 0) (Calm.fldPtr rfl rfl Try.underlying88 rfl sz9 _ rfl) ?_
        refine AQ.calmG 10 true 18 rfl rfl (congrArg (fun b => some (AV.fl (Value.bool b))) (decide_eq_true hc4)) 22 rfl (by decide) (eStr p0.f0) (Calm.load 0 rfl rfl rfl (At.cast (At.fld0 At.here) rfl) ag9 sz9) ?_
        refine AQ.calmG 10 true 18 rfl rfl (congrArg (fun b => some (AV.fl (Value.bool b))) (decide_eq_true hc4)) 23 rfl (by decide) (.ptr q0 0) (Calm.move rfl rfl) ?_
        refine AQ.calmG 10 true 18 rfl rfl (congrArg (fun b => some (AV.fl (Value.bool b))) (decide_eq_true hc4)) 24 rfl (by decide) (.ptr q0 0) (Calm.nilCheck rfl rfl) ?_
        refine AQ.calmG 10 true 18 rfl rfl (congrArg (fun b => some (AV.fl (Value.bool b))) (decide_eq_true hc4)) 25 rfl (by decide) (.ptr q0 1) (Calm.fldPtr rfl rfl Try.underlying88 rfl sz3 _ rfl) ?_
        refine AQ.calmG 10 true 18 rfl rfl (congrArg (fun b => some (AV.fl (Value.bool b))) (decide_eq_true hc4)) 26 rfl (by decide) (eI64 p0.f1) (Calm.load 0 rfl rfl rfl (At.cast (At.fldS (At.fld0 At.here)) rfl) ag3 sz3) ?_
        obtain ⟨hg5, hq3⟩ := of_guard hq3
        refine AQ.calmG 10 true 18 rfl rfl (congrArg (fun b => some (AV.fl (Value.bool b))) (decide_eq_true hc4)) 27 rfl (by decide) (eU8 (byteAt p0.f0 p0.f1)) (Calm.idxS rfl rfl rfl hg5 Try.underlying9) ?_
        refine AQ.calmG 10 true 18 rfl rfl (congrArg (fun b => some (AV.fl (Value.bool b))) (decide_eq_true hc4)) 28 rfl (by decide) (eBool (decide ((byteAt p0.f0 p0.f1) = (40 : Int)))) (Calm.int rfl rfl rfl rfl) ?_
        refine AQ.calm rfl 29 rfl (by decide) (eBool (decide ((byteAt p0.f0 p0.f1) = (40 : Int)))) (Calm.pickT rfl (congrArg (fun b => some (AV.fl (Value.bool b))) (decide_eq_true hc4)) rfl) ?_
        cases hq3
        refine AQ.nilE rfl ?_
        exact ⟨rfl, rfl, trivial⟩
      · have hq3 := (if_neg hc4).symm.trans hq3
        refine AQ.skipG 10 false 18 rfl rfl (congrArg (fun b => some (AV.fl (Value.bool b))) (decide_eq_false hc4)) 19 rfl (by decide) ?_
        refine AQ.skipG 10 false 18 rfl rfl (congrArg (fun b => some (AV.fl (Value.bool b))) (decide_eq_false hc4)) 20 rfl (by decide) ?_
        refine AQ.skipG 10 false 18 rfl rfl (congrArg (fun b => some (AV.fl (Value.bool b))) (decide_eq_false hc4)) 21 rfl (by decide) ?_
        refine AQ.skipG 10 false 18 rfl rfl (congrArg (fun b => some (AV.fl (Value.bool b))) (decide_eq_false hc4)) 22 rfl (by decide) ?_
        refine AQ.skipG 10 false 18 rfl rfl (congrArg (fun b => some (AV.fl (Value.bool b))) (decide_eq_false hc4)) 23 rfl (by decide) ?_
        refine AQ.skipG 10 false 18 rfl rfl (congrArg (fun b => some (AV.fl (Value.bool b))) (decide_eq_false hc4)) 24 rfl (by decide) ?_
        refine AQ.skipG 10 false 18 rfl rfl (congrArg (fun b => some (AV.fl (Value.bool b))) (decide_eq_false hc4)) 25 rfl (by decide) ?_
        refine AQ.skipG 10 false 18 rfl rfl (congrArg (fun b => some (AV.fl (Value.bool b))) (decide_eq_false hc4)) 26 rfl (by decide) ?_
        refine AQ.skipG 10 false 18 rfl rfl (congrArg (fun b => some (AV.fl (Value.bool b))) (decide_eq_false hc4)) 27 rfl (by decide) ?_
        refine AQ.skipG 10 false 18 rfl rfl (congrArg (fun b => some (AV.fl (Value.bool b))) (decide_eq_false hc4)) 28 rfl (by decide) ?_
        refine AQ.calm rfl 29 rfl (by decide) (eBool false) (Calm.pickF rfl (congrArg (fun b => some (AV.fl (Value.bool b))) (decide_eq_false hc4)) rfl) ?_
        cases hq3
        refine AQ.nilE rfl ?_
        exact ⟨rfl, rfl, trivial⟩
    · by_cases hc6 : b2 = true
      · have h := (if_pos hc6).symm.trans h
        refine AW.condT' b2 rfl hc6 ?_
        refine AW.seq ?_
        refine AW.reg ?_
        refine AO.calm rfl 30 rfl (by decide) (.ptr q0 0) (Calm.move rfl rfl) ?_
        obtain ⟨t7, et7, h⟩ := of_bind h
        refine AO.callH [(.ptr q0 0)] ((q0, .mem (e88 p0)) :: T0) _ rfl rfl rfl 31 rfl (by decide) ok83 ⟨rfl, rfl, trivial⟩ (Sub.cons 0 rfl (Sub.refl _)) (hself83 _ _ et7 _ _) ?_
        rintro _ _ ⟨rfl, hs8⟩
        refine AO.weak (ρ' := [(0, (.ptr q0 0)), (29, (eBool b2)), (30, (.ptr q0 0)), (31, (.tup [(.fz 4 (t7.1.map e43)), (eBool t7.2.1)]))]) (H' := ((q0, .mem (e88 t7.2.2)) :: T0)) ⟨rfl, rfl, rfl, rfl, trivial⟩ hs8 ?_
        refine AO.calm rfl 32 rfl (by decide) (.fz 4 (t7.1.map e43)) (Calm.extract rfl rfl rfl) ?_
        refine AO.calm rfl 33 rfl (by decide) (eBool t7.2.1) (Calm.extract rfl rfl rfl) ?_
        refine AO.calm rfl 2 rfl (by decide) (.fz 4 (t7.1.map e43)) (Calm.assign rfl rfl) ?_
        refine AO.calm rfl 3 rfl (by decide) (eBool t7.2.1) (Calm.assign rfl rfl) ?_
        refine AO.nil (ρ' := [(2, (.fz 4 (t7.1.map e43))), (3, (eBool t7.2.1))]) (H' := ((q0, .mem (e88 t7.2.2)) :: T0)) ⟨rfl, rfl, trivial⟩ (Sub.refl _) ?_
        refine AW.ret (ρ' := [(2, (.fz 4 (t7.1.map e43))), (3, (eBool t7.2.1))]) (H' := ((q0, .mem (e88 t7.2.2)) :: T0)) ⟨rfl, rfl, trivial⟩ (Sub.refl _) ?_
        have hr := Option.some.inj h
        subst hr
        exact ⟨[(.fz 4 (t7.1.map e43)), (eBool t7.2.1)], ⟨rfl, rfl, rfl, rfl, trivial⟩, rfl, (Sub.cons 0 rfl (Sub.refl _))⟩
      · have h := (if_neg hc6).symm.trans h
        refine AW.condF' b2 rfl hc6 ?_
        refine AW.skip (ρ' := [(0, (.ptr q0 0))]) (H' := ((q0, .mem (e88 p0)) :: T0)) ⟨rfl, trivial⟩ (Sub.refl _) ?_
        refine AW.seq ?_
        refine AW.reg ?_
        refine AO.calm rfl 35 rfl (by decide) (.ptr q0 0) (Calm.move rfl rfl) ?_
        obtain ⟨t9, et9, h⟩ := of_bind h
        refine AO.callH [(.ptr q0 0)] ((q0, .mem (e88 p0)) :: T0) _ rfl rfl rfl 36 rfl (by decide) ok84 ⟨rfl, rfl, trivial⟩ (Sub.cons 0 rfl (Sub.refl _)) (ast_reader_number_spec et9) ?_
        rintro _ _ ⟨rfl, hs10⟩
        refine AO.weak (ρ' := [(0, (.ptr q0 0)), (35, (.ptr q0 0)), (36, (.tup [(eI64 t9.1), (eBool t9.2.1)]))]) (H' := ((q0, .mem (e88 t9.2.2)) :: T0)) ⟨rfl, rfl, rfl, trivial⟩ hs10 ?_
        refine AO.calm rfl 34 rfl (by decide) (.tup [(eI64 t9.1), (eBool t9.2.1)]) (Calm.move rfl rfl) ?_
        refine AO.calm rfl 37 rfl (by decide) (eI64 t9.1) (Calm.extract rfl rfl rfl) ?_
        refine AO.calm rfl 38 rfl (by decide) (eBool t9.2.1) (Calm.extract rfl rfl rfl) ?_
        refine AO.calm rfl 4 rfl (by decide) (eI64 t9.1) (Calm.assign rfl rfl) ?_
        refine AO.calm rfl 5 rfl (by decide) (eBool t9.2.1) (Calm.assign rfl rfl) ?_
        refine AO.nil (ρ' := [(0, (.ptr q0 0)), (4, (eI64 t9.1)), (5, (eBool t9.2.1))]) (H' := ((q0, .mem (e88 t9.2.2)) :: T0)) ⟨rfl, rfl, rfl, trivial⟩ (Sub.refl _) ?_
        refine AW.seq ?_
        refine AW.seq ?_
        obtain ⟨b11, hq12, h⟩ := of_bind h
        refine AW.regQM (by rfl) (by decide +kernel) [(0, (.ptr q0 0)), (4, (eI64 t9.1)), (64, (eBool b11))] ?_ ?_
        · refine AQ.calm rfl 39 rfl (by decide) (eBool t9.2.1) (Calm.move rfl rfl) ?_
          refine AQ.calm rfl 40 rfl (by decide) (eBool (!t9.2.1)) (Calm.not rfl rfl) ?_
          refine AQ.calm rfl 41 rfl (by decide) (eBool (!t9.2.1)) (Calm.move rfl rfl) ?_
          by_cases hc13 : (!t9.2.1) = true
          · have hq12 := (if_pos hc13).symm.trans hq12
            refine AQ.skipG 2 true 41 rfl rfl (congrArg (fun b => some (AV.fl (Value.bool b))) hc13) 42 rfl (by decide) ?_
            refine AQ.skipG 2 true 41 rfl rfl (congrArg (fun b => some (AV.fl (Value.bool b))) hc13) 43 rfl (by decide) ?_
            refine AQ.skipG 2 true 41 rfl rfl (congrArg (fun b => some (AV.fl (Value.bool b))) hc13) 44 rfl (by decide) ?_
            refine AQ.skipG 2 true 41 rfl rfl (congrArg (fun b => some (AV.fl (Value.bool b))) hc13) 45 rfl (by decide) ?_
            refine AQ.skipG 2 true 41 rfl rfl (congrArg (fun b => some (AV.fl (Value.bool b))) hc13) 46 rfl (by decide) ?_
            refine AQ.skipG 2 true 41 rfl rfl (congrArg (fun b => some (AV.fl (Value.bool b))) hc13) 47 rfl (by decide) ?_
            refine AQ.skipG 2 true 41 rfl rfl (congrArg (fun b => some (AV.fl (Value.bool b))) hc13) 48 rfl (by decide) ?_
            refine AQ.skipG 2 true 41 rfl rfl (congrArg (fun b => some (AV.fl (Value.bool b))) hc13) 49 rfl (by decide) ?_
            refine AQ.skipG 2 true 41 rfl rfl (congrArg (fun b => some (AV.fl (Value.bool b))) hc13) 50 rfl (by decide) ?_
            refine AQ.skipG 2 true 41 rfl rfl (congrArg (fun b => some (AV.fl (Value.bool b))) hc13) 51 rfl (by decide) ?_
            refine AQ.calm rfl 52 rfl (by decide) (eBool true) (Calm.pickT rfl (congrArg (fun b => some (AV.fl (Value.bool b))) hc13) rfl) ?_
            refine AQ.calm rfl 53 rfl (by decide) (eBool true) (Calm.move rfl rfl) ?_
            refine AQ.skipG 14 true 53 rfl rfl rfl 54 rfl (by decide) ?_
            refine AQ.skipG 14 true 53 rfl rfl rfl 55 rfl (by decide) ?_
            refine AQ.skipG 14 true 53 rfl rfl rfl 56 rfl (by decide) ?_
            refine AQ.skipG 14 true 53 rfl rfl rfl 57 rfl (by decide) ?_
            refine AQ.skipG 14 true 53 rfl rfl rfl 58 rfl (by decide) ?_
            refine AQ.skipG 14 true 53 rfl rfl rfl 59 rfl (by decide) ?_
            refine AQ.skipG 14 true 53 rfl rfl rfl 60 rfl (by decide) ?_
            refine AQ.skipG 14 true 53 rfl rfl rfl 61 rfl (by decide) ?_
            refine AQ.skipG 14 true 53 rfl rfl rfl 62 rfl (by decide) ?_
            refine AQ.skipG 14 true 53 rfl rfl rfl 63 rfl (by decide) ?_
            refine AQ.calm rfl 64 rfl (by decide) (eBool true) (Calm.pickT rfl rfl rfl) ?_
            cases hq12
            refine AQ.nilE rfl ?_
            exact ⟨rfl, rfl, rfl, trivial⟩
          · have hq12 := (if_neg hc13).symm.trans hq12
            refine AQ.calmG 2 false 41 rfl rfl (congrArg (fun b => some (AV.fl (Value.bool b))) (eq_false_of_ne_true hc13)) 42 rfl (by decide) (.ptr q0 0) (Calm.move rfl rfl) ?_
            refine AQ.calmG 2 false 41 rfl rfl (congrArg (fun b => some (AV.fl (Value.bool b))) (eq_false_of_ne_true hc13)) 43 rfl (by decide) (.ptr q0 0) (Calm.nilCheck rfl rfl) ?_
            refine AQ.calmG 2 false 41 rfl rfl (congrArg (fun b => some (AV.fl (Value.bool b))) (eq_false_of_ne_true hc13)) 44 rfl (by decide) (.ptr q0 1) (Calm.fldPtr rfl rfl Try.underlying88 rfl sz3 _ rfl) ?_
            refine AQ.calmG 2 false 41 rfl rfl (congrArg (fun b => some (AV.fl (Value.bool b))) (eq_false_of_ne_true hc13)) 45 rfl (by decide) (eI64 t9.2.2.f1) (Calm.load 0 rfl rfl rfl (At.cast (At.fldS (At.fld0 At.here)) rfl) ag3 sz3) ?_
            refine AQ.calmG 2 false 41 rfl rfl (congrArg (fun b => some (AV.fl (Value.bool b))) (eq_false_of_ne_true hc13)) 46 rfl (by decide) (.ptr q0 0) (Calm.move rfl rfl) ?_
            refine AQ.calmG 2 false 41 rfl rfl (congrArg (fun b => some (AV.fl (Value.bool b))) (eq_false_of_ne_true hc13)) 47 rfl (by decide) (.ptr q0 0) (Calm.nilCheck rfl rfl) ?_
            refine AQ.calmG 2 false 41 rfl rfl (congrArg (fun b => some (AV.fl (Value.bool b))) (eq_false_of_ne_true hc13)) 48 rfl (by decide) (.ptr q0 0) (Calm.fldPtr rfl rfl Try.underlying88 rfl sz9 _ rfl) ?_
            refine AQ.calmG 2 false 41 rfl rfl (congrArg (fun b => some (AV.fl (Value.bool b))) (eq_false_of_ne_true hc13)) 49 rfl (by decide) (eStr t9.2.2.f0) (Calm.load 0 rfl rfl rfl (At.cast (At.fld0 At.here) rfl) ag9 sz9) ?_
            refine AQ.calmG 2 false 41 rfl rfl (congrArg (fun b => some (AV.fl (Value.bool b))) (eq_false_of_ne_true hc13)) 50 rfl (by decide) (eI64 (t9.2.2.f0.size : Int)) (Calm.lenStr rfl rfl Try.underlying9) ?_
            refine AQ.calmG 2 false 41 rfl rfl (congrArg (fun b => some (AV.fl (Value.bool b))) (eq_false_of_ne_true hc13)) 51 rfl (by decide) (eBool (decide ((t9.2.2.f0.size : Int) ≤ t9.2.2.f1))) (Calm.int rfl rfl rfl rfl) ?_
            refine AQ.calm rfl 52 rfl (by decide) (eBool (decide ((t9.2.2.f0.size : Int) ≤ t9.2.2.f1))) (Calm.pickF rfl (congrArg (fun b => some (AV.fl (Value.bool b))) (eq_false_of_ne_true hc13)) rfl) ?_
            refine AQ.calm rfl 53 rfl (by decide) (eBool (decide ((t9.2.2.f0.size : Int) ≤ t9.2.2.f1))) (Calm.move rfl rfl) ?_
            by_cases hc14 : (t9.2.2.f0.size : Int) ≤ t9.2.2.f1
            · have hq12 := (if_pos hc14).symm.trans hq12
              refine AQ.skipG 14 true 53 rfl rfl (congrArg (fun b => some (AV.fl (Value.bool b))) (decide_eq_true hc14)) 54 rfl (by decide) ?_
              refine AQ.skipG 14 true 53 rfl rfl (congrArg (fun b => some (AV.fl (Value.bool b))) (decide_eq_true hc14)) 55 rfl (by decide) ?_
              refine AQ.skipG 14 true 53 rfl rfl (congrArg (fun b => some (AV.fl (Value.bool b))) (decide_eq_true hc14)) 56 rfl (by decide) ?_
              refine AQ.skipG 14 true 53 rfl rfl (congrArg (fun b => some (AV.fl (Value.bool b))) (decide_eq_true hc14)) 57 rfl (by decide) ?_
              refine AQ.skipG 14 true 53 rfl rfl (congrArg (fun b => some (AV.fl (Value.bool b))) (decide_eq_true hc14)) 58 rfl (by decide) ?_
              refine AQ.skipG 14 true 53 rfl rfl (congrArg (fun b => some (AV.fl (Value.bool b))) (decide_eq_true hc14)) 59 rfl (by decide) ?_
              refine AQ.skipG 14 true 53 rfl rfl (congrArg (fun b => some (AV.fl (Value.bool b))) (decide_eq_true hc14)) 60 rfl (by decide) ?_
              refine AQ.skipG 14 true 53 rfl rfl (congrArg (fun b => some (AV.fl (Value.bool b))) (decide_eq_true hc14)) 61 rfl (by decide) ?_
              refine AQ.skipG 14 true 53 rfl rfl (congrArg (fun b => some (AV.fl (Value.bool b))) (decide_eq_true hc14)) 62 rfl (by decide) ?_
              refine AQ.skipG 14 true 53 rfl rfl (congrArg (fun b => some (AV.fl (Value.bool b))) (decide_eq_true hc14)) 63 rfl (by decide) ?_
              refine AQ.calm rfl 64 rfl (by decide) (eBool true) (Calm.pickT rfl (congrArg (fun b => some (AV.fl (Value.bool b))) (decide_eq_true hc14)) rfl) ?_
              cases hq12
              refine AQ.nilE rfl ?_
              exact ⟨rfl, rfl, rfl, trivial⟩
            · have hq12 := (if_neg hc14).symm.trans hq12
              refine AQ.calmG 14 false 53 rfl rfl (congrArg (fun b => some (AV.fl (Value.bool b))) (decide_eq_false hc14)) 54 rfl (by decide) (.ptr q0 0) (Calm.move rfl rfl) ?_
              refine AQ.calmG 14 false 53 rfl rfl (congrArg (fun b => some (AV.fl (Value.bool b))) (decide_eq_false hc14)) 55 rfl (by decide) (.ptr q0 0) (Calm.nilCheck rfl rfl) ?_
              refine AQ.calmG 14 false 53 rfl rfl (congrArg (fun b => some (AV.fl (Value.bool b))) (decide_eq_false hc14)) 56 rfl (by decide) (.ptr q0 0) (Calm.fldPtr rfl rfl Try.underlying88 rfl sz9 _ rfl) ?_
              refine AQ.calmG 14 false 53 rfl rfl (congrArg (fun b => some (AV.fl (Value.bool b))) (decide_eq_false hc14)) 57 rfl (by decide) (eStr t9.2.2.f0) (Calm.load 0 rfl rfl rfl (At.cast (At.fld0 At.here) rfl) ag9 sz9) ?_
              refine AQ.calmG 14 false 53 rfl rfl (congrArg (fun b => some (AV.fl (Value.bool b))) (decide_eq_false hc14)) 58 rfl (by decide) (.ptr q0 0) (Calm.move rfl rfl) ?_
              refine AQ.calmG 14 false 53 rfl rfl (congrArg (fun b => some (AV.fl (Value.bool b))) (decide_eq_false hc14)) 59 rfl (by decide) (.ptr q0 0) (Calm.nilCheck rfl rfl) ?_
              refine AQ.calmG 14 false 53 rfl rfl (congrArg (fun b => some (AV.fl (Value.bool b))) (decide_eq_false hc14)) 60 rfl (by decide) (.ptr q0 1) (Calm.fldPtr rfl rfl Try.underlying88 rfl sz3 _ rfl) ?_
              refine AQ.calmG 14 false 53 rfl rfl (congrArg (fun b => some (AV.fl (Value.bool b))) (decide_eq_false hc14)) 61 rfl (by decide) (eI64 t9.2.2.f1) (Calm.load 0 rfl rfl rfl (At.cast (At.fldS (At.fld0 At.here)) rfl) ag3 sz3) ?_
              obtain ⟨hg15, hq12⟩ := of_guard hq12
              refine AQ.calmG 14 false 53 rfl rfl (congrArg (fun b => some (AV.fl (Value.bool b))) (decide_eq_false hc14)) 62 rfl (by decide) (eU8 (byteAt t9.2.2.f0 t9.2.2.f1)) (Calm.idxS rfl rfl rfl hg15 Try.underlying9) ?_
              refine AQ.calmG 14 false 53 rfl rfl (congrArg (fun b => some (AV.fl (Value.bool b))) (decide_eq_false hc14)) 63 rfl (by decide) (eBool (decide ((byteAt t9.2.2.f0 t9.2.2.f1) ≠ (58 : Int)))) (Calm.int rfl rfl rfl rfl) ?_
              refine AQ.calm rfl 64 rfl (by decide) (eBool (decide ((byteAt t9.2.2.f0 t9.2.2.f1) ≠ (58 : Int)))) (Calm.pickF rfl (congrArg (fun b => some (AV.fl (Value.bool b))) (decide_eq_false hc14)) rfl) ?_
              cases hq12
              refine AQ.nilE rfl ?_
              exact ⟨rfl, rfl, rfl, trivial⟩
        · by_cases hc16 : b11 = true
          · have h := (if_pos hc16).symm.trans h
            refine AW.condT' b11 rfl hc16 ?_
            refine AW.seq ?_
            refine AW.reg ?_
            refine AO.calm rfl 2 rfl (by decide) (.fl (.slice none 0 0)) (Calm.assign rfl rfl) ?_
            refine AO.calm rfl 3 rfl (by decide) (eBool false) (Calm.assign rfl rfl) ?_
            refine AO.nil (ρ' := [(2, (.fl (.slice none 0 0))), (3, (eBool false))]) (H' := ((q0, .mem (e88 t9.2.2)) :: T0)) ⟨rfl, rfl, trivial⟩ (Sub.refl _) ?_
            refine AW.coeC 2 (y' := (.fz 4 (([] : List S43).map e43))) rfl Coe.nil ?_
            refine AW.ret (ρ' := [(2, (.fz 4 (([] : List S43).map e43))), (3, (eBool false))]) (H' := ((q0, .mem (e88 t9.2.2)) :: T0)) ⟨rfl, rfl, trivial⟩ (Sub.refl _) ?_
            have hr := Option.some.inj h
            subst hr
            exact ⟨[(.fz 4 (([] : List S43).map e43)), (eBool false)], ⟨rfl, rfl, rfl, rfl, trivial⟩, rfl, (Sub.cons 0 rfl (Sub.refl _))⟩
          · have h := (if_neg hc16).symm.trans h
            refine AW.condF' b11 rfl hc16 ?_
            refine AW.skip (ρ' := [(0, (.ptr q0 0)), (4, (eI64 t9.1))]) (H' := ((q0, .mem (e88 t9.2.2)) :: T0)) ⟨rfl, rfl, trivial⟩ (Sub.refl _) ?_
            refine AW.seq ?_
            refine AW.regQ (by rfl) (by decide +kernel) ?_
            refine AQ.calm rfl 66 rfl (by decide) (.ptr q0 0) (Calm.move rfl rfl) ?_
            refine AQ.calm rfl 67 rfl (by decide) (.ptr q0 0) (Calm.nilCheck rfl rfl) ?_
            refine AQ.calm rfl 68 rfl (by decide) (.ptr q0 0) (Calm.fldPtr rfl rfl Try.underlying88 rfl sz9 _ rfl) ?_
            refine AQ.calm rfl 69 rfl (by decide) (eStr t9.2.2.f0) (Calm.load 0 rfl rfl rfl (At.cast (At.fld0 At.here) rfl) ag9 sz9) ?_
            refine AQ.calm rfl 70 rfl (by decide) (.ptr q0 0) (Calm.move rfl rfl) ?_
            refine AQ.calm rfl 71 rfl (by decide) (.ptr q0 0) (Calm.nilCheck rfl rfl) ?_
            refine AQ.calm rfl 72 rfl (by decide) (.ptr q0 1) (Calm.fldPtr rfl rfl Try.underlying88 rfl sz3 _ rfl) ?_
            refine AQ.calm rfl 73 rfl (by decide) (eI64 t9.2.2.f1) (Calm.load 0 rfl rfl rfl (At.cast (At.fldS (At.fld0 At.here)) rfl) ag3 sz3) ?_
            refine AQ.calm rfl 74 rfl (by decide) (eI64 (w64 (t9.2.2.f1 + (1 : Int)))) (Calm.int rfl rfl rfl rfl) ?_
            obtain ⟨hg17, h⟩ := of_guard h
            refine AQ.calm rfl 75 rfl (by decide) (eStr (t9.2.2.f0.extract (w64 (t9.2.2.f1 + (1 : Int))).toNat (t9.2.2.f0.size : Int).toNat)) (Calm.sliceS rfl rfl rfl rfl hg17 Try.underlying9) ?_
            obtain ⟨t18, et18, h⟩ := of_bind h
            refine AQ.calm rfl 76 rfl (by decide) (.tup [(eStr t18.1), (eI64 t18.2.1), (eBool t18.2.2)]) (Calm.call (args := [(eStr (t9.2.2.f0.extract (w64 (t9.2.2.f1 + (1 : Int))).toNat (t9.2.2.f0.size : Int).toNat)), (eU8 (34 : Int))]) rfl rfl ok68 ⟨rfl, rfl, rfl, rfl, trivial⟩ rfl (escape_Unquote_spec et18)) ?_
            refine AQ.calm rfl 65 rfl (by decide) (.tup [(eStr t18.1), (eI64 t18.2.1), (eBool t18.2.2)]) (Calm.move rfl rfl) ?_
            refine AQ.calm rfl 77 rfl (by decide) (eStr t18.1) (Calm.extract rfl rfl rfl) ?_
            refine AQ.calm rfl 78 rfl (by decide) (eI64 t18.2.1) (Calm.extract rfl rfl rfl) ?_
            refine AQ.calm rfl 79 rfl (by decide) (eBool t18.2.2) (Calm.extract rfl rfl rfl) ?_
            refine AQ.calm rfl 6 rfl (by decide) (eStr t18.1) (Calm.assign rfl rfl) ?_
            refine AQ.calm rfl 7 rfl (by decide) (eI64 t18.2.1) (Calm.assign rfl rfl) ?_
            refine AQ.calm rfl 5 rfl (by decide) (eBool t18.2.2) (Calm.assign rfl rfl) ?_
            refine AQ.nil (ρ' := [(0, (.ptr q0 0)), (4, (eI64 t9.1)), (5, (eBool t18.2.2)), (6, (eStr t18.1)), (7, (eI64 t18.2.1))]) ⟨rfl, rfl, rfl, rfl, rfl, trivial⟩ ?_
            refine AW.seq ?_
            refine AW.reg ?_
            refine AO.calm rfl 80 rfl (by decide) (.ptr q0 0) (Calm.move rfl rfl) ?_
            refine AO.calm rfl 81 rfl (by decide) (.ptr q0 0) (Calm.nilCheck rfl rfl) ?_
            refine AO.calm rfl 82 rfl (by decide) (.ptr q0 1) (Calm.fldPtr rfl rfl Try.underlying88 rfl sz3 _ rfl) ?_
            refine AO.calm rfl 83 rfl (by decide) (eI64 t9.2.2.f1) (Calm.load 0 rfl rfl rfl (At.cast (At.fldS (At.fld0 At.here)) rfl) ag3 sz3) ?_
            refine AO.calm rfl 84 rfl (by decide) (eI64 t18.2.1) (Calm.move rfl rfl) ?_
            refine AO.calm rfl 85 rfl (by decide) (eI64 (w64 ((1 : Int) + t18.2.1))) (Calm.int rfl rfl rfl rfl) ?_
            refine AO.calm rfl 86 rfl (by decide) (eI64 (w64 (t9.2.2.f1 + (w64 ((1 : Int) + t18.2.1))))) (Calm.int rfl rfl rfl rfl) ?_
            refine AO.calm rfl 87 rfl (by decide) (.ptr q0 0) (Calm.nilCheck rfl rfl) ?_
            refine AO.calm rfl 88 rfl (by decide) (.ptr q0 1) (Calm.fldPtr rfl rfl Try.underlying88 rfl sz3 _ rfl) ?_
            refine AO.store (X' := (.st [(1, (eStr t9.2.2.f0)), (1, (eI64 (w64 (t9.2.2.f1 + (w64 ((1 : Int) + t18.2.1)))))), (1, (eI64 t9.2.2.f2))])) 0 rfl rfl rfl rfl rfl rfl (Put.cast (Put.fldS (Put.fld0 Put.here)) rfl) rfl rfl sz3 rfl ?_
            refine AO.nil (ρ' := [(4, (eI64 t9.1)), (5, (eBool t18.2.2)), (6, (eStr t18.1))]) (H' := ((q0, .mem (.st [(1, (eStr t9.2.2.f0)), (1, (eI64 (w64 (t9.2.2.f1 + (w64 ((1 : Int) + t18.2.1)))))), (1, (eI64 t9.2.2.f2))])) :: T0)) ⟨rfl, rfl, rfl, trivial⟩ (Sub.refl _) ?_
            refine AW.seq ?_
            refine AW.reg ?_
            refine AO.calm rfl 89 rfl (by decide) (eI64 t9.1) (Calm.move rfl rfl) ?_
            refine AO.calm rfl 90 rfl (by decide) (eStr t18.1) (Calm.move rfl rfl) ?_
            refine AO.calm rfl 91 rfl (by decide) (.st [(1, (eBool true)), (1, (eI64 t9.1)), (1, (eI64 (0 : Int))), (1, (eStr t18.1))]) (Calm.build (qs := [(0, (eBool true)), (1, (eI64 t9.1)), (3, (eStr t18.1))]) rfl ⟨rfl, rfl, rfl, rfl, rfl, rfl, rfl, rfl, rfl, trivial⟩ Try.underlying43 rfl zr43 lay43 (.cons rfl rfl rfl rfl (Put.cast (Put.fld0 Put.here) rfl) (.cons rfl rfl rfl rfl (Put.cast (Put.fldS (Put.fld0 Put.here)) rfl) (.cons rfl rfl rfl rfl (Put.cast (Put.fldS (Put.fldS (Put.fldS (Put.fld0 Put.here)))) rfl) .nil))) rfl) ?_
            refine AO.lit (Z := (.st [(1, (eBool false)), (1, (eI64 (0 : Int))), (1, (eI64 (0 : Int))), (1, (eStr ByteArray.empty))])) (xs := (([(S43.mk true t9.1 (0 : Int) t18.1)] : List S43).map e43)) (qs := [(0, (e43 (S43.mk true t9.1 (0 : Int) t18.1)))]) rfl 92 rfl (by decide) rfl ⟨rfl, rfl, rfl, trivial⟩ Try.underlying37 sz43 zr43 lay43 rfl (by decide) (litOK (z := 4) [(e43 (S43.mk true t9.1 (0 : Int) t18.1))] rfl ⟨⟨rfl, rfl⟩, trivial⟩) rfl fun n19 => ?_
            refine AO.calm rfl 93 rfl (by decide) (eBool t18.2.2) (Calm.move rfl rfl) ?_
            refine AO.calm rfl 2 rfl (by decide) (.own n19 0 ([(S43.mk true t9.1 (0 : Int) t18.1)] : List S43).length) (Calm.assign rfl rfl) ?_
            refine AO.calm rfl 3 rfl (by decide) (eBool t18.2.2) (Calm.assign rfl rfl) ?_
            refine AO.nil (ρ' := [(2, (.own n19 0 ([(S43.mk true t9.1 (0 : Int) t18.1)] : List S43).length)), (3, (eBool t18.2.2))]) (H' := ((q0, .mem (.st [(1, (eStr t9.2.2.f0)), (1, (eI64 (w64 (t9.2.2.f1 + (w64 ((1 : Int) + t18.2.1)))))), (1, (eI64 t9.2.2.f2))])) :: (n19, .mem (.ar 4 (([(S43.mk true t9.1 (0 : Int) t18.1)] : List S43).map e43))) :: T0)) ⟨rfl, rfl, trivial⟩ (Sub.cons 1 rfl (Sub.cons 0 rfl (Sub.refl _))) ?_
            refine AW.freezeS 1 [(2, (.fz 4 (([(S43.mk true t9.1 (0 : Int) t18.1)] : List S43).map e43)))] rfl ⟨fz_all rfl, trivial⟩ ?_
            refine AW.ret (ρ' := [(2, (.fz 4 (([(S43.mk true t9.1 (0 : Int) t18.1)] : List S43).map e43))), (3, (eBool t18.2.2))]) (H' := ((q0, .mem (.st [(1, (eStr t9.2.2.f0)), (1, (eI64 (w64 (t9.2.2.f1 + (w64 ((1 : Int) + t18.2.1)))))), (1, (eI64 t9.2.2.f2))])) :: T0)) ⟨rfl, rfl, trivial⟩ (Sub.refl _) ?_
            have hr := Option.some.inj h
            subst hr
            exact ⟨[(.fz 4 (([(S43.mk true t9.1 (0 : Int) t18.1)] : List S43).map e43)), (eBool t18.2.2)], ⟨rfl, rfl, rfl, rfl, trivial⟩, rfl, (Sub.cons 0 rfl (Sub.refl _))⟩
  · intro p0 r h q0 T0
    rw [ast_reader_node_r.eq_2] at h
    generalize hsself62 : ast_reader_tree_r k j = self62 at h hself62
    generalize hsself83 : ast_reader_node_r k j = self83 at h hself83
    refine SpecH.intro (res := [.tmp 2, .tmp 3]) Try.func83 rfl rfl rfl (Nat.le_of_ble_eq_true rfl) ?_
    refine AW.seq ?_
    refine AW.reg ?_
    refine AO.calm rfl 2 rfl (by decide) (.fl (.slice none 0 0)) (Calm.assign rfl rfl) ?_
    refine AO.calm rfl 3 rfl (by decide) (eBool false) (Calm.assign rfl rfl) ?_
    refine AO.nil (ρ' := [(0, (.ptr q0 0))]) (H' := ((q0, .mem (e88 p0)) :: T0)) ⟨rfl, trivial⟩ (Sub.refl _) ?_
    refine AW.seq ?_
    refine AW.reg ?_
    refine AO.calm rfl 8 rfl (by decide) (.ptr q0 0) (Calm.move rfl rfl) ?_
    refine AO.calm rfl 9 rfl (by decide) (.ptr q0 0) (Calm.nilCheck rfl rfl) ?_
    refine AO.calm rfl 10 rfl (by decide) (.ptr q0 1) (Calm.fldPtr rfl rfl Try.underlying88 rfl sz3 _ rfl) ?_
    refine AO.calm rfl 11 rfl (by decide) (eI64 p0.f1) (Calm.load 0 rfl rfl rfl (At.cast (At.fldS (At.fld0 At.here)) rfl) ag3 sz3) ?_
    refine AO.calm rfl 12 rfl (by decide) (eI64 (w64 (p0.f1 + (1 : Int)))) (Calm.int rfl rfl rfl rfl) ?_
    refine AO.calm rfl 13 rfl (by decide) (.ptr q0 0) (Calm.nilCheck rfl rfl) ?_
    refine AO.calm rfl 14 rfl (by decide) (.ptr q0 1) (Calm.fldPtr rfl rfl Try.underlying88 rfl sz3 _ rfl) ?_
    refine AO.store (X' := (.st [(1, (eStr p0.f0)), (1, (eI64 (w64 (p0.f1 + (1 : Int))))), (1, (eI64 p0.f2))])) 0 rfl rfl rfl rfl rfl rfl (Put.cast (Put.fldS (Put.fld0 Put.here)) rfl) rfl rfl sz3 rfl ?_
    refine AO.nil (ρ' := [(0, (.ptr q0 0))]) (H' := ((q0, .mem (.st [(1, (eStr p0.f0)), (1, (eI64 (w64 (p0.f1 + (1 : Int))))), (1, (eI64 p0.f2))])) :: T0)) ⟨rfl, trivial⟩ (Sub.refl _) ?_
    refine AW.seq ?_
    refine AW.seq ?_
    refine AW.reg ?_
    refine AO.calm rfl 15 rfl (by decide) (.ptr q0 0) (Calm.move rfl rfl) ?_
    refine AO.calm rfl 16 rfl (by decide) (.ptr q0 0) (Calm.nilCheck rfl rfl) ?_
    refine AO.calm rfl 17 rfl (by decide) (.ptr q0 2) (Calm.fldPtr rfl rfl Try.underlying88 rfl sz3 _ rfl) ?_
    refine AO.calm rfl 18 rfl (by decide) (eI64 p0.f2) (Calm.load 0 rfl rfl rfl (At.cast (At.fldS (At.fldS (At.fld0 At.here))) rfl) ag3 sz3) ?_
    refine AO.calm rfl 19 rfl (by decide) (eI64 (w64 (p0.f2 + (1 : Int)))) (Calm.int rfl rfl rfl rfl) ?_
    refine AO.calm rfl 20 rfl (by decide) (.ptr q0 0) (Calm.nilCheck rfl rfl) ?_
    refine AO.calm rfl 21 rfl (by decide) (.ptr q0 2) (Calm.fldPtr rfl rfl Try.underlying88 rfl sz3 _ rfl) ?_
    refine AO.store (X' := (.st [(1, (eStr p0.f0)), (1, (eI64 (w64 (p0.f1 + (1 : Int))))), (1, (eI64 (w64 (p0.f2 + (1 : Int)))))])) 0 rfl rfl rfl rfl rfl rfl (Put.cast (Put.fldS (Put.fldS (Put.fld0 Put.here))) rfl) rfl rfl sz3 rfl ?_
    refine AO.nil (ρ' := [(0, (.ptr q0 0))]) (H' := ((q0, .mem (.st [(1, (eStr p0.f0)), (1, (eI64 (w64 (p0.f1 + (1 : Int))))), (1, (eI64 (w64 (p0.f2 + (1 : Int)))))])) :: T0)) ⟨rfl, trivial⟩ (Sub.refl _) ?_
    refine AW.seq ?_
    refine AW.reg ?_
    refine AO.calm rfl 22 rfl (by decide) (.ptr q0 0) (Calm.move rfl rfl) ?_
    refine AO.calm rfl 23 rfl (by decide) (.ptr q0 0) (Calm.nilCheck rfl rfl) ?_
    refine AO.calm rfl 24 rfl (by decide) (.ptr q0 2) (Calm.fldPtr rfl rfl Try.underlying88 rfl sz3 _ rfl) ?_
    refine AO.calm rfl 25 rfl (by decide) (eI64 (w64 (p0.f2 + (1 : Int)))) (Calm.load 0 rfl rfl rfl (At.cast (At.fldS (At.fldS (At.fld0 At.here))) rfl) ag3 sz3) ?_
    refine AO.calm rfl 26 rfl (by decide) (eBool (decide ((2000 : Int) < (w64 (p0.f2 + (1 : Int)))))) (Calm.int rfl rfl rfl rfl) ?_
    refine AO.nil (ρ' := [(0, (.ptr q0 0)), (26, (eBool (decide ((2000 : Int) < (w64 (p0.f2 + (1 : Int)))))))]) (H' := ((q0, .mem (.st [(1, (eStr p0.f0)), (1, (eI64 (w64 (p0.f1 + (1 : Int))))), (1, (eI64 (w64 (p0.f2 + (1 : Int)))))])) :: T0)) ⟨rfl, rfl, trivial⟩ (Sub.refl _) ?_
    by_cases hc2 : (2000 : Int) < (w64 (p0.f2 + (1 : Int)))
    · have h := (if_pos hc2).symm.trans h
      refine AW.condP ((2000 : Int) < (w64 (p0.f2 + (1 : Int)))) rfl hc2 ?_
      refine AW.seq ?_
      refine AW.reg ?_
      refine AO.calm rfl 2 rfl (by decide) (.fl (.slice none 0 0)) (Calm.assign rfl rfl) ?_
      refine AO.calm rfl 3 rfl (by decide) (eBool false) (Calm.assign rfl rfl) ?_
      refine AO.nil (ρ' := [(2, (.fl (.slice none 0 0))), (3, (eBool false))]) (H' := ((q0, .mem (.st [(1, (eStr p0.f0)), (1, (eI64 (w64 (p0.f1 + (1 : Int))))), (1, (eI64 (w64 (p0.f2 + (1 : Int)))))])) :: T0)) ⟨rfl, rfl, trivial⟩ (Sub.refl _) ?_
      refine AW.coeC 2 (y' := (.fz 4 (([] : List S43).map e43))) rfl Coe.nil ?_
      refine AW.ret (ρ' := [(2, (.fz 4 (([] : List S43).map e43))), (3, (eBool false))]) (H' := ((q0, .mem (.st [(1, (eStr p0.f0)), (1, (eI64 (w64 (p0.f1 + (1 : Int))))), (1, (eI64 (w64 (p0.f2 + (1 : Int)))))])) :: T0)) ⟨rfl, rfl, trivial⟩ (Sub.refl _) ?_
      have hr := Option.some.inj h
      subst hr
      exact ⟨[(.fz 4 (([] : List S43).map e43)), (eBool false)], ⟨rfl, rfl, rfl, rfl, trivial⟩, rfl, (Sub.cons 0 rfl (Sub.refl _))⟩
    · have h := (if_neg hc2).symm.trans h
      refine AW.condN ((2000 : Int) < (w64 (p0.f2 + (1 : Int)))) rfl hc2 ?_
      refine AW.skip (ρ' := [(0, (.ptr q0 0))]) (H' := ((q0, .mem (.st [(1, (eStr p0.f0)), (1, (eI64 (w64 (p0.f1 + (1 : Int))))), (1, (eI64 (w64 (p0.f2 + (1 : Int)))))])) :: T0)) ⟨rfl, trivial⟩ (Sub.refl _) ?_
      refine AW.seq ?_
      refine AW.reg ?_
      refine AO.calm rfl 28 rfl (by decide) (.ptr q0 0) (Calm.move rfl rfl) ?_
      obtain ⟨t3, et3, h⟩ := of_bind h
      refine AO.callH [(.ptr q0 0)] ((q0, .mem (e88 (S88.mk p0.f0 (w64 (p0.f1 + (1 : Int))) (w64 (p0.f2 + (1 : Int)))))) :: T0) _ rfl rfl rfl 29 rfl (by decide) ok84 ⟨rfl, rfl, trivial⟩ (Sub.cons 0 rfl (Sub.refl _)) (ast_reader_number_spec et3) ?_
      rintro _ _ ⟨rfl, hs4⟩
      refine AO.weak (ρ' := [(0, (.ptr q0 0)), (28, (.ptr q0 0)), (29, (.tup [(eI64 t3.1), (eBool t3.2.1)]))]) (H' := ((q0, .mem (e88 t3.2.2)) :: T0)) ⟨rfl, rfl, rfl, trivial⟩ hs4 ?_
      refine AO.calm rfl 27 rfl (by decide) (.tup [(eI64 t3.1), (eBool t3.2.1)]) (Calm.move rfl rfl) ?_
      refine AO.calm rfl 30 rfl (by decide) (eI64 t3.1) (Calm.extract rfl rfl rfl) ?_
      refine AO.calm rfl 31 rfl (by decide) (eBool t3.2.1) (Calm.extract rfl rfl rfl) ?_
      refine AO.calm rfl 4 rfl (by decide) (eI64 t3.1) (Calm.assign rfl rfl) ?_
      refine AO.calm rfl 5 rfl (by decide) (eBool t3.2.1) (Calm.assign rfl rfl) ?_
      refine AO.nil (ρ' := [(0, (.ptr q0 0)), (4, (eI64 t3.1)), (5, (eBool t3.2.1))]) (H' := ((q0, .mem (e88 t3.2.2)) :: T0)) ⟨rfl, rfl, rfl, trivial⟩ (Sub.refl _) ?_
      refine AW.seq ?_
      refine AW.reg ?_
      refine AO.calm rfl 6 rfl (by decide) (.fl (.slice none 0 0)) (Calm.assign rfl rfl) ?_
      refine AO.nil (ρ' := [(0, (.ptr q0 0)), (4, (eI64 t3.1)), (5, (eBool t3.2.1)), (6, (.fl (.slice none 0 0)))]) (H' := ((q0, .mem (e88 t3.2.2)) :: T0)) ⟨rfl, rfl, rfl, rfl, trivial⟩ (Sub.refl _) ?_
      refine AW.seq_mid (fun ρ H => ∃ (n9 : Nat) (x5 : ByteArray) (x6 : Int) (x7 : Int) (b8 : Bool) (x10 : (List (List S43))), ρ = [(0, (.ptr q0 0)), (4, (eI64 t3.1)), (5, (eBool b8)), (6, (.own n9 0 x10.length))] ∧ H = ((q0, .mem (.st [(1, (eStr x5)), (1, (eI64 x6)), (1, (eI64 x7))])) :: (n9, .mem (.ar 1 (x10.map e37))) :: T0) ∧ ast_reader_node_c0 k t3 x5 x6 x7 b8 x10 = some r) ?_ ?_
      · refine AW.block ?_
        refine AW.nilOwn 6 1 rfl fun n37 => ?_
        refine AW.weak (ρ' := [(0, (.ptr q0 0)), (4, (eI64 t3.1)), (5, (eBool t3.2.1)), (6, (.own n37 0 ([] : List (List S43)).length))]) (H' := ((q0, .mem (e88 t3.2.2)) :: (n37, .mem (.ar 1 (([] : List (List S43)).map e37))) :: T0)) ⟨rfl, rfl, rfl, rfl, trivial⟩ (Sub.cons 1 rfl (Sub.cons 0 rfl (Sub.refl _))) ?_
        refine AW.loop (fun kq ρ H => ∃ (n22 : Nat) (x18 : ByteArray) (x19 : Int) (x20 : Int) (b21 : Bool) (x23 : (List (List S43))), ρ = [(0, (.ptr q0 0)), (4, (eI64 t3.1)), (5, (eBool b21)), (6, (.own n22 0 x23.length))] ∧ H = ((q0, .mem (.st [(1, (eStr x18)), (1, (eI64 x19)), (1, (eI64 x20))])) :: (n22, .mem (.ar 1 (x23.map e37))) :: T0) ∧ ast_reader_node_l1 k self62 t3 kq x18 x19 x20 b21 x23 = some r) k ⟨n37, t3.2.2.f0, t3.2.2.f1, t3.2.2.f2, t3.2.1, [], rfl, rfl, h⟩ ?_
        rintro kq25 _ _ ⟨n22, x18, x19, x20, b21, x23, rfl, rfl, h⟩
        cases kq25 with
        | zero => rw [ast_reader_node_l1.eq_1] at h; cases h
        | succ kq25 =>
        rw [ast_reader_node_l1.eq_2] at h
        generalize hrec24 : ast_reader_node_l1 k self62 t3 kq25 = rec24 at h
        refine AW.seq ?_
        refine AW.seq ?_
        obtain ⟨b26, hq27, h⟩ := of_bind h
        refine AW.regQM (by rfl) (by decide +kernel) [(0, (.ptr q0 0)), (4, (eI64 t3.1)), (5, (eBool b21)), (6, (.own n22 0 x23.length)), (56, (eBool b26))] ?_ ?_
        · refine AQ.calm rfl 32 rfl (by decide) (eBool b21) (Calm.move rfl rfl) ?_
          refine AQ.calm rfl 33 rfl (by decide) (eBool b21) (Calm.move rfl rfl) ?_
          by_cases hc28 : b21 = true
          · have hq27 := (if_pos hc28).symm.trans hq27
            refine AQ.calmG 1 true 33 rfl rfl (congrArg (fun b => some (AV.fl (Value.bool b))) hc28) 34 rfl (by decide) (.ptr q0 0) (Calm.move rfl rfl) ?_
            refine AQ.calmG 1 true 33 rfl rfl (congrArg (fun b => some (AV.fl (Value.bool b))) hc28) 35 rfl (by decide) (.ptr q0 0) (Calm.nilCheck rfl rfl) ?_
            refine AQ.calmG 1 true 33 rfl rfl (congrArg (fun b => some (AV.fl (Value.bool b))) hc28) 36 rfl (by decide) (.ptr q0 1) (Calm.fldPtr rfl rfl Try.underlying88 rfl sz3 _ rfl) ?_
            refine AQ.calmG 1 true 33 rfl rfl (congrArg (fun b => some (AV.fl (Value.bool b))) hc28) 37 rfl (by decide) (eI64 x19) (Calm.load 0 rfl rfl rfl (At.cast (At.fldS (At.fld0 At.here)) rfl) ag3 sz3) ?_
            refine AQ.calmG 1 true 33 rfl rfl (congrArg (fun b => some (AV.fl (Value.bool b))) hc28) 38 rfl (by decide) (.ptr q0 0) (Calm.move rfl rfl) ?_
            refine AQ.calmG 1 true 33 rfl rfl (congrArg (fun b => some (AV.fl (Value.bool b))) hc28) 39 rfl (by decide) (.ptr q0 0) (Calm.nilCheck rfl rfl) ?_
            refine AQ.calmG 1 true 33 rfl rfl (congrArg (fun b => some (AV.fl (Value.bool b))) hc28) 40 rfl (by decide) (.ptr q0 0) (Calm.fldPtr rfl rfl Try.underlying88 rfl sz9 _ rfl) ?_
            refine AQ.calmG 1 true 33 rfl rfl (congrArg (fun b => some (AV.fl (Value.bool b))) hc28) 41 rfl (by decide) (eStr x18) (Calm.load 0 rfl rfl rfl (At.cast (At.fld0 At.here) rfl) ag9 sz9) ?_
            refine AQ.calmG 1 true 33 rfl rfl (congrArg (fun b => some (AV.fl (Value.bool b))) hc28) 42 rfl (by decide) (eI64 (x18.size : Int)) (Calm.lenStr rfl rfl Try.underlying9) ?_
            refine AQ.calmG 1 true 33 rfl rfl (congrArg (fun b => some (AV.fl (Value.bool b))) hc28) 43 rfl (by decide) (eBool (decide (x19 < (x18.size : Int)))) (Calm.int rfl rfl rfl rfl) ?_
            refine AQ.calm rfl 44 rfl (by decide) (eBool (decide (x19 < (x18.size : Int)))) (Calm.pickT rfl (congrArg (fun b => some (AV.fl (Value.bool b))) hc28) rfl) ?_
            refine AQ.calm rfl 45 rfl (by decide) (eBool (decide (x19 < (x18.size : Int)))) (Calm.move rfl rfl) ?_
            by_cases hc29 : x19 < (x18.size : Int)
            · have hq27 := (if_pos hc29).symm.trans hq27
              refine AQ.calmG 13 true 45 rfl rfl (congrArg (fun b => some (AV.fl (Value.bool b))) (decide_eq_true hc29)) 46 rfl (by decide) (.ptr q0 0) (Calm.move rfl rfl) ?_
              refine AQ.calmG 13 true 45 rfl rfl (congrArg (fun b => some (AV.fl (Value.bool b))) (decide_eq_true hc29)) 47 rfl (by decide) (.ptr q0 0) (Calm.nilCheck rfl rfl) ?_
              refine AQ.calmG 13 true 45 rfl rfl (congrArg (fun b => some (AV.fl (Value.bool b))) (decide_eq_true hc29)) 48 rfl (by decide) (.ptr q0 0) (Calm.fldPtr rfl rfl Try.underlying88 rfl sz9 _ rfl) ?_
              refine AQ.calmG 13 true 45 rfl rfl (congrArg (fun b => some (AV.fl (Value.bool b))) (decide_eq_true hc29)) 49 rfl (by decide) (eStr x18) (Calm.load 0 rfl rfl rfl (At.cast (At.fld0 At.here) rfl) ag9 sz9) ?_
              refine AQ.calmG 13 true 45 rfl rfl (congrArg (fun b => some (AV.fl (Value.bool b))) (decide_eq_true hc29)) 50 rfl (by decide) (.ptr q0 0) (Calm.move rfl rfl) ?_
              refine AQ.calmG 13 true 45 rfl rfl (congrArg (fun b => some (AV.fl (Value.bool b))) (decide_eq_true hc29)) 51 rfl (by decide) (.ptr q0 0) (Calm.nilCheck rfl rfl) ?_
              refine AQ.calmG 13 true 45 rfl rfl (congrArg (fun b => some (AV.fl (Value.bool b))) (decide_eq_true hc29)) 52 rfl (by decide) (.ptr q0 1) (Calm.fldPtr rfl rfl Try.underlying88 rfl sz3 _ rfl) ?_
              refine AQ.calmG 13 true 45 rfl rfl (congrArg (fun b => some (AV.fl (Value.bool b))) (decide_eq_true hc29)) 53 rfl (by decide) (eI64 x19) (Calm.load 0 rfl rfl rfl (At.cast (At.fldS (At.fld0 At.here)) rfl) ag3 sz3) ?_
              obtain ⟨hg30, hq27⟩ := of_guard hq27
              refine AQ.calmG 13 true 45 rfl rfl (congrArg (fun b => some (AV.fl (Value.bool b))) (decide_eq_true hc29)) 54 rfl (by decide) (eU8 (byteAt x18 x19)) (Calm.idxS rfl rfl rfl hg30 Try.underlying9) ?_
              refine AQ.calmG 13 true 45 rfl rfl (congrArg (fun b => some (AV.fl (Value.bool b))) (decide_eq_true hc29)) 55 rfl (by decide) (eBool (decide ((byteAt x18 x19) = (32 : Int)))) (Calm.int rfl rfl rfl rfl) ?_
              refine AQ.calm rfl 56 rfl (by decide) (eBool (decide ((byteAt x18 x19) = (32 : Int)))) (Calm.pickT rfl (congrArg (fun b => some (AV.fl (Value.bool b))) (decide_eq_true hc29)) rfl) ?_
              cases hq27
              refine AQ.nilE rfl ?_
              exact ⟨rfl, rfl, rfl, rfl, rfl, trivial⟩
            · have hq27 := (if_neg hc29).symm.trans hq27
              refine AQ.skipG 13 false 45 rfl rfl (congrArg (fun b => some (AV.fl (Value.bool b))) (decide_eq_false hc29)) 46 rfl (by decide) ?_
              refine AQ.skipG 13 false 45 rfl rfl (congrArg (fun b => some (AV.fl (Value.bool b))) (decide_eq_false hc29)) 47 rfl (by decide) ?_
              refine AQ.skipG 13 false 45 rfl rfl (congrArg (fun b => some (AV.fl (Value.bool b))) (decide_eq_false hc29)) 48 rfl (by decide) ?_
              refine AQ.skipG 13 false 45 rfl rfl (congrArg (fun b => some (AV.fl (Value.bool b))) (decide_eq_false hc29)) 49 rfl (by decide) ?_
              refine AQ.skipG 13 false 45 rfl rfl (congrArg (fun b => some (AV.fl (Value.bool b))) (decide_eq_false hc29)) 50 rfl (by decide) ?_
              refine AQ.skipG 13 false 45 rfl rfl (congrArg (fun b => some (AV.fl (Value.bool b))) (decide_eq_false hc29)) 51 rfl (by decide) ?_
              refine AQ.skipG 13 false 45 rfl rfl (congrArg (fun b => some (AV.fl (Value.bool b))) (decide_eq_false hc29)) 52 rfl (by decide) ?_
              refine AQ.skipG 13 false 45 rfl rfl (congrArg (fun b => some (AV.fl (Value.bool b))) (decide_eq_false hc29)) 53 rfl (by decide) ?_
              refine AQ.skipG 13 false 45 rfl rfl (congrArg (fun b => some (AV.fl (Value.bool b))) (decide_eq_false hc29)) 54 rfl (by decide) ?_
              refine AQ.skipG 13 false 45 rfl rfl (congrArg (fun b => some (AV.fl (Value.bool b))) (decide_eq_false hc29)) 55 rfl (by decide) ?_
              refine AQ.calm rfl 56 rfl (by decide) (eBool false) (Calm.pickF rfl (congrArg (fun b => some (AV.fl (Value.bool b))) (decide_eq_false hc29)) rfl) ?_
              cases hq27
              refine AQ.nilE rfl ?_
              exact ⟨rfl, rfl, rfl, rfl, rfl, trivial⟩
          · have hq27 := (if_neg hc28).symm.trans hq27
            refine AQ.skipG 1 false 33 rfl rfl (congrArg (fun b => some (AV.fl (Value.bool b))) (eq_false_of_ne_true hc28)) 34 rfl (by decide) ?_
            refine AQ.skipG 1 false 33 rfl rfl (congrArg (fun b => some (AV.fl (Value.bool b))) (eq_false_of_ne_true hc28)) 35 rfl (by decide) ?_
            refine AQ.skipG 1 false 33 rfl rfl (congrArg (fun b => some (AV.fl (Value.bool b))) (eq_false_of_ne_true hc28)) 36 rfl (by decide) ?_
            refine AQ.skipG 1 false 33 rfl rfl (congrArg (fun b => some (AV.fl (Value.bool b))) (eq_false_of_ne_true hc28)) 37 rfl (by decide) ?_
            refine AQ.skipG 1 false 33 rfl rfl (congrArg (fun b => some (AV.fl (Value.bool b))) (eq_false_of_ne_true hc28)) 38 rfl (by decide) ?_
            refine AQ.skipG 1 false 33 rfl rfl (congrArg (fun b => some (AV.fl (Value.bool b))) (eq_false_of_ne_true hc28)) 39 rfl (by decide) ?_
            refine AQ.skipG 1 false 33 rfl rfl (congrArg (fun b => some (AV.fl (Value.bool b))) (eq_false_of_ne_true hc28)) 40 rfl (by decide) ?_
            refine AQ.skipG 1 false 33 rfl rfl (congrArg (fun b => some (AV.fl (Value.bool b))) (eq_false_of_ne_true hc28)) 41 rfl (by decide) ?_
            refine AQ.skipG 1 false 33 rfl rfl (congrArg (fun b => some (AV.fl (Value.bool b))) (eq_false_of_ne_true hc28)) 42 rfl (by decide) ?_
            refine AQ.skipG 1 false 33 rfl rfl (congrArg (fun b => some (AV.fl (Value.bool b))) (eq_false_of_ne_true hc28)) 43 rfl (by decide) ?_
            refine AQ.calm rfl 44 rfl (by decide) (eBool false) (Calm.pickF rfl (congrArg (fun b => some (AV.fl (Value.bool b))) (eq_false_of_ne_true hc28)) rfl) ?_
            refine AQ.calm rfl 45 rfl (by decide) (eBool false) (Calm.move rfl rfl) ?_
            refine AQ.skipG 13 false 45 rfl rfl rfl 46 rfl (by decide) ?_
            refine AQ.skipG 13 false 45 rfl rfl rfl 47 rfl (by decide) ?_
            refine AQ.skipG 13 false 45 rfl rfl rfl 48 rfl (by decide) ?_
            refine AQ.skipG 13 false 45 rfl rfl rfl 49 rfl (by decide) ?_
            refine AQ.skipG 13 false 45 rfl rfl rfl 50 rfl (by decide) ?_
            refine AQ.skipG 13 false 45 rfl rfl rfl 51 rfl (by decide) ?_
            refine AQ.skipG 13 false 45 rfl rfl rfl 52 rfl (by decide) ?_
            refine AQ.skipG 13 false 45 rfl rfl rfl 53 rfl (by decide) ?_
            refine AQ.skipG 13 false 45 rfl rfl rfl 54 rfl (by decide) ?_
            refine AQ.skipG 13 false 45 rfl rfl rfl 55 rfl (by decide) ?_
            refine AQ.calm rfl 56 rfl (by decide) (eBool false) (Calm.pickF rfl rfl rfl) ?_
            cases hq27
            refine AQ.nilE rfl ?_
            exact ⟨rfl, rfl, rfl, rfl, rfl, trivial⟩
        · by_cases hc31 : b26 = true
          · have h := (if_pos hc31).symm.trans h
            refine AW.condT' b26 rfl hc31 ?_
            refine AW.skip (ρ' := [(0, (.ptr q0 0)), (4, (eI64 t3.1)), (6, (.own n22 0 x23.length))]) (H' := ((q0, .mem (.st [(1, (eStr x18)), (1, (eI64 x19)), (1, (eI64 x20))])) :: (n22, .mem (.ar 1 (x23.map e37))) :: T0)) ⟨rfl, rfl, rfl, trivial⟩ (Sub.refl _) ?_
            refine AW.block ?_
            refine AW.seq ?_
            refine AW.reg ?_
            refine AO.calm rfl 57 rfl (by decide) (.ptr q0 0) (Calm.move rfl rfl) ?_
            refine AO.calm rfl 58 rfl (by decide) (.ptr q0 0) (Calm.nilCheck rfl rfl) ?_
            refine AO.calm rfl 59 rfl (by decide) (.ptr q0 1) (Calm.fldPtr rfl rfl Try.underlying88 rfl sz3 _ rfl) ?_
            refine AO.calm rfl 60 rfl (by decide) (eI64 x19) (Calm.load 0 rfl rfl rfl (At.cast (At.fldS (At.fld0 At.here)) rfl) ag3 sz3) ?_
            refine AO.calm rfl 61 rfl (by decide) (eI64 (w64 (x19 + (1 : Int)))) (Calm.int rfl rfl rfl rfl) ?_
            refine AO.calm rfl 62 rfl (by decide) (.ptr q0 0) (Calm.nilCheck rfl rfl) ?_
            refine AO.calm rfl 63 rfl (by decide) (.ptr q0 1) (Calm.fldPtr rfl rfl Try.underlying88 rfl sz3 _ rfl) ?_
            refine AO.store (X' := (.st [(1, (eStr x18)), (1, (eI64 (w64 (x19 + (1 : Int))))), (1, (eI64 x20))])) 0 rfl rfl rfl rfl rfl rfl (Put.cast (Put.fldS (Put.fld0 Put.here)) rfl) rfl rfl sz3 rfl ?_
            refine AO.nil (ρ' := [(0, (.ptr q0 0)), (4, (eI64 t3.1)), (6, (.own n22 0 x23.length))]) (H' := ((q0, .mem (.st [(1, (eStr x18)), (1, (eI64 (w64 (x19 + (1 : Int))))), (1, (eI64 x20))])) :: (n22, .mem (.ar 1 (x23.map e37))) :: T0)) ⟨rfl, rfl, rfl, trivial⟩ (Sub.refl _) ?_
            refine AW.seq ?_
            refine AW.reg ?_
            refine AO.calm rfl 7 rfl (by decide) (.fl (.slice none 0 0)) (Calm.assign rfl rfl) ?_
            refine AO.nil (ρ' := [(0, (.ptr q0 0)), (4, (eI64 t3.1)), (6, (.own n22 0 x23.length))]) (H' := ((q0, .mem (.st [(1, (eStr x18)), (1, (eI64 (w64 (x19 + (1 : Int))))), (1, (eI64 x20))])) :: (n22, .mem (.ar 1 (x23.map e37))) :: T0)) ⟨rfl, rfl, rfl, trivial⟩ (Sub.refl _) ?_
            refine AW.seq ?_
            refine AW.reg ?_
            refine AO.calm rfl 65 rfl (by decide) (.ptr q0 0) (Calm.move rfl rfl) ?_
            obtain ⟨t32, et32, h⟩ := of_bind h
            refine AO.callH [(.ptr q0 0)] ((q0, .mem (e88 (S88.mk x18 (w64 (x19 + (1 : Int))) x20))) :: (n22, .mem (.ar 1 (x23.map e37))) :: T0) _ rfl rfl rfl 66 rfl (by decide) ok62 ⟨rfl, rfl, trivial⟩ (Sub.cons 0 rfl (Sub.refl _)) (hself62 _ _ et32 _ _) ?_
            rintro _ _ ⟨rfl, hs33⟩
            refine AO.weak (ρ' := [(0, (.ptr q0 0)), (4, (eI64 t3.1)), (6, (.own n22 0 x23.length)), (65, (.ptr q0 0)), (66, (.tup [(.fz 4 (t32.1.map e43)), (eBool t32.2.1)]))]) (H' := ((q0, .mem (e88 t32.2.2)) :: (n22, .mem (.ar 1 (x23.map e37))) :: T0)) ⟨rfl, rfl, rfl, rfl, rfl, trivial⟩ hs33 ?_
            refine AO.calm rfl 64 rfl (by decide) (.tup [(.fz 4 (t32.1.map e43)), (eBool t32.2.1)]) (Calm.move rfl rfl) ?_
            refine AO.calm rfl 67 rfl (by decide) (.fz 4 (t32.1.map e43)) (Calm.extract rfl rfl rfl) ?_
            refine AO.calm rfl 68 rfl (by decide) (eBool t32.2.1) (Calm.extract rfl rfl rfl) ?_
            refine AO.calm rfl 7 rfl (by decide) (.fz 4 (t32.1.map e43)) (Calm.assign rfl rfl) ?_
            refine AO.calm rfl 5 rfl (by decide) (eBool t32.2.1) (Calm.assign rfl rfl) ?_
            refine AO.nil (ρ' := [(0, (.ptr q0 0)), (4, (eI64 t3.1)), (5, (eBool t32.2.1)), (6, (.own n22 0 x23.length)), (7, (.fz 4 (t32.1.map e43)))]) (H' := ((q0, .mem (e88 t32.2.2)) :: (n22, .mem (.ar 1 (x23.map e37))) :: T0)) ⟨rfl, rfl, rfl, rfl, rfl, trivial⟩ (Sub.refl _) ?_
            refine AW.reg ?_
            refine AO.calm rfl 69 rfl (by decide) (.own n22 0 x23.length) (Calm.move rfl rfl) ?_
            refine AO.calm rfl 70 rfl (by decide) (.fz 4 (t32.1.map e43)) (Calm.move rfl rfl) ?_
            refine AO.lit (Z := (.fl (.slice none 0 0))) (xs := (([t32.1] : List (List S43)).map e37)) (qs := [(0, (.fz 4 (t32.1.map e43)))]) rfl 71 rfl (by decide) rfl ⟨rfl, rfl, rfl, trivial⟩ Try.underlying49 sz37 zr37 lay37 rfl (by decide) (litOK (z := 1) [(.fz 4 (t32.1.map e43))] rfl ⟨⟨rfl, rfl⟩, trivial⟩) rfl fun n34 => ?_
            obtain ⟨hg36, h⟩ := of_guard h
            refine AO.appendL (l := x23) (m := ([t32.1] : List (List S43))) 2 72 rfl (by decide) rfl rfl rfl rfl rfl (Src.ownL (f := e37) (l := ([t32.1] : List (List S43))) 0 rfl) Try.underlying49 Try.underlying49 sz37 by37 zr37 rfl hg36 (by decide) fun n35 => ?_
            refine AO.calm rfl 6 rfl (by decide) (.own n35 0 (x23 ++ ([t32.1] : List (List S43))).length) (Calm.assign rfl rfl) ?_
            refine AO.nil (ρ' := [(0, (.ptr q0 0)), (4, (eI64 t3.1)), (5, (eBool t32.2.1)), (6, (.own n35 0 (x23 ++ ([t32.1] : List (List S43))).length))]) (H' := ((q0, .mem (e88 t32.2.2)) :: (n35, .mem (.ar 1 ((x23 ++ ([t32.1] : List (List S43))).map e37))) :: T0)) ⟨rfl, rfl, rfl, rfl, trivial⟩ (Sub.cons 1 rfl (Sub.cons 1 rfl (Sub.drop (Sub.refl _)))) ?_
            exact ⟨kq25, Nat.lt_succ_self _, n35, t32.2.2.f0, t32.2.2.f1, t32.2.2.f2, t32.2.1, (x23 ++ ([t32.1] : List (List S43))), rfl, rfl, by rw [hrec24]; exact h⟩
          · have h := (if_neg hc31).symm.trans h
            refine AW.condF' b26 rfl hc31 ?_
            refine AW.exit (ρ' := [(0, (.ptr q0 0)), (4, (eI64 t3.1)), (5, (eBool b21)), (6, (.own n22 0 x23.length))]) (H' := ((q0, .mem (.st [(1, (eStr x18)), (1, (eI64 x19)), (1, (eI64 x20))])) :: (n22, .mem (.ar 1 (x23.map e37))) :: T0)) ⟨rfl, rfl, rfl, rfl, trivial⟩ (Sub.refl _) ?_
            exact ⟨n22, x18, x19, x20, b21, x23, rfl, rfl, h⟩
      · rintro _ _ ⟨n9, x5, x6, x7, b8, x10, rfl, rfl, h⟩
        rw [ast_reader_node_c0.eq_1] at h
        refine AW.seq ?_
        refine AW.reg ?_
        refine AO.calm rfl 73 rfl (by decide) (.ptr q0 0) (Calm.move rfl rfl) ?_
        refine AO.calm rfl 74 rfl (by decide) (.ptr q0 0) (Calm.nilCheck rfl rfl) ?_
        refine AO.calm rfl 75 rfl (by decide) (.ptr q0 2) (Calm.fldPtr rfl rfl Try.underlying88 rfl sz3 _ rfl) ?_
        refine AO.calm rfl 76 rfl (by decide) (eI64 x7) (Calm.load 0 rfl rfl rfl (At.cast (At.fldS (At.fldS (At.fld0 At.here))) rfl) ag3 sz3) ?_
        refine AO.calm rfl 77 rfl (by decide) (eI64 (w64 (x7 - (1 : Int)))) (Calm.int rfl rfl rfl rfl) ?_
        refine AO.calm rfl 78 rfl (by decide) (.ptr q0 0) (Calm.nilCheck rfl rfl) ?_
        refine AO.calm rfl 79 rfl (by decide) (.ptr q0 2) (Calm.fldPtr rfl rfl Try.underlying88 rfl sz3 _ rfl) ?_
        refine AO.store (X' := (.st [(1, (eStr x5)), (1, (eI64 x6)), (1, (eI64 (w64 (x7 - (1 : Int)))))])) 0 rfl rfl rfl rfl rfl rfl (Put.cast (Put.fldS (Put.fldS (Put.fld0 Put.here))) rfl) rfl rfl sz3 rfl ?_
        refine AO.nil (ρ' := [(0, (.ptr q0 0)), (4, (eI64 t3.1)), (5, (eBool b8)), (6, (.own n9 0 x10.length))]) (H' := ((q0, .mem (.st [(1, (eStr x5)), (1, (eI64 x6)), (1, (eI64 (w64 (x7 - (1 : Int)))))])) :: (n9, .mem (.ar 1 (x10.map e37))) :: T0)) ⟨rfl, rfl, rfl, rfl, trivial⟩ (Sub.refl _) ?_
        refine AW.seq ?_
        refine AW.seq ?_
        obtain ⟨b11, hq12, h⟩ := of_bind h
        refine AW.regQM (by rfl) (by decide +kernel) [(0, (.ptr q0 0)), (4, (eI64 t3.1)), (6, (.own n9 0 x10.length)), (105, (eBool b11))] ?_ ?_
        · refine AQ.calm rfl 80 rfl (by decide) (eBool b8) (Calm.move rfl rfl) ?_
          refine AQ.calm rfl 81 rfl (by decide) (eBool (!b8)) (Calm.not rfl rfl) ?_
          refine AQ.calm rfl 82 rfl (by decide) (eBool (!b8)) (Calm.move rfl rfl) ?_
          by_cases hc13 : (!b8) = true
          · have hq12 := (if_pos hc13).symm.trans hq12
            refine AQ.skipG 2 true 82 rfl rfl (congrArg (fun b => some (AV.fl (Value.bool b))) hc13) 83 rfl (by decide) ?_
            refine AQ.skipG 2 true 82 rfl rfl (congrArg (fun b => some (AV.fl (Value.bool b))) hc13) 84 rfl (by decide) ?_
            refine AQ.skipG 2 true 82 rfl rfl (congrArg (fun b => some (AV.fl (Value.bool b))) hc13) 85 rfl (by decide) ?_
            refine AQ.skipG 2 true 82 rfl rfl (congrArg (fun b => some (AV.fl (Value.bool b))) hc13) 86 rfl (by decide) ?_
            refine AQ.skipG 2 true 82 rfl rfl (congrArg (fun b => some (AV.fl (Value.bool b))) hc13) 87 rfl (by decide) ?_
            refine AQ.skipG 2 true 82 rfl rfl (congrArg (fun b => some (AV.fl (Value.bool b))) hc13) 88 rfl (by decide) ?_
            refine AQ.skipG 2 true 82 rfl rfl (congrArg (fun b => some (AV.fl (Value.bool b))) hc13) 89 rfl (by decide) ?_
            refine AQ.skipG 2 true 82 rfl rfl (congrArg (fun b => some (AV.fl (Value.bool b))) hc13) 90 rfl (by decide) ?_
            refine AQ.skipG 2 true 82 rfl rfl (congrArg (fun b => some (AV.fl (Value.bool b))) hc13) 91 rfl (by decide) ?_
            refine AQ.skipG 2 true 82 rfl rfl (congrArg (fun b => some (AV.fl (Value.bool b))) hc13) 92 rfl (by decide) ?_
            refine AQ.calm rfl 93 rfl (by decide) (eBool true) (Calm.pickT rfl (congrArg (fun b => some (AV.fl (Value.bool b))) hc13) rfl) ?_
            refine AQ.calm rfl 94 rfl (by decide) (eBool true) (Calm.move rfl rfl) ?_
            refine AQ.skipG 14 true 94 rfl rfl rfl 95 rfl (by decide) ?_
            refine AQ.skipG 14 true 94 rfl rfl rfl 96 rfl (by decide) ?_
            refine AQ.skipG 14 true 94 rfl rfl rfl 97 rfl (by decide) ?_
            refine AQ.skipG 14 true 94 rfl rfl rfl 98 rfl (by decide) ?_
            refine AQ.skipG 14 true 94 rfl rfl rfl 99 rfl (by decide) ?_
            refine AQ.skipG 14 true 94 rfl rfl rfl 100 rfl (by decide) ?_
            refine AQ.skipG 14 true 94 rfl rfl rfl 101 rfl (by decide) ?_
            refine AQ.skipG 14 true 94 rfl rfl rfl 102 rfl (by decide) ?_
            refine AQ.skipG 14 true 94 rfl rfl rfl 103 rfl (by decide) ?_
            refine AQ.skipG 14 true 94 rfl rfl rfl 104 rfl (by decide) ?_
            refine AQ.calm rfl 105 rfl (by decide) (eBool true) (Calm.pickT rfl rfl rfl) ?_
            cases hq12
            refine AQ.nilE rfl ?_
            exact ⟨rfl, rfl, rfl, rfl, trivial⟩
          · have hq12 := (if_neg hc13).symm.trans hq12
            refine AQ.calmG 2 false 82 rfl rfl (congrArg (fun b => some (AV.fl (Value.bool b))) (eq_false_of_ne_true hc13)) 83 rfl (by decide) (.ptr q0 0) (Calm.move rfl rfl) ?_
            refine AQ.calmG 2 false 82 rfl rfl (congrArg (fun b => some (AV.fl (Value.bool b))) (eq_false_of_ne_true hc13)) 84 rfl (by decide) (.ptr q0 0) (Calm.nilCheck rfl rfl) ?_
            refine AQ.calmG 2 false 82 rfl rfl (congrArg (fun b => some (AV.fl (Value.bool b))) (eq_false_of_ne_true hc13)) 85 rfl (by decide) (.ptr q0 1) (Calm.fldPtr rfl rfl Try.underlying88 rfl sz3 _ rfl) ?_
            refine AQ.calmG 2 false 82 rfl rfl (congrArg (fun b => some (AV.fl (Value.bool b))) (eq_false_of_ne_true hc13)) 86 rfl (by decide) (eI64 x6) (Calm.load 0 rfl rfl rfl (At.cast (At.fldS (At.fld0 At.here)) rfl) ag3 sz3) ?_
            refine AQ.calmG 2 false 82 rfl rfl (congrArg (fun b => some (AV.fl (Value.bool b))) (eq_false_of_ne_true hc13)) 87 rfl (by decide) (.ptr q0 0) (Calm.move rfl rfl) ?_
            refine AQ.calmG 2 false 82 rfl rfl (congrArg (fun b => some (AV.fl (Value.bool b))) (eq_false_of_ne_true hc13)) 88 rfl (by decide) (.ptr q0 0) (Calm.nilCheck rfl rfl) ?_
            refine AQ.calmG 2 false 82 rfl rfl (congrArg (fun b => some (AV.fl (Value.bool b))) (eq_false_of_ne_true hc13)) 89 rfl (by decide) (.ptr q0 0) (Calm.fldPtr rfl rfl Try.underlying88 rfl sz9 _ rfl) ?_
            refine AQ.calmG 2 false 82 rfl rfl (congrArg (fun b => some (AV.fl (Value.bool b))) (eq_false_of_ne_true hc13)) 90 rfl (by decide) (eStr x5) (Calm.load 0 rfl rfl rfl (At.cast (At.fld0 At.here) rfl) ag9 sz9) ?_
            refine AQ.calmG 2 false 82 rfl rfl (congrArg (fun b => some (AV.fl (Value.bool b))) (eq_false_of_ne_true hc13)) 91 rfl (by decide) (eI64 (x5.size : Int)) (Calm.lenStr rfl rfl Try.underlying9) ?_
            refine AQ.calmG 2 false 82 rfl rfl (congrArg (fun b => some (AV.fl (Value.bool b))) (eq_false_of_ne_true hc13)) 92 rfl (by decide) (eBool (decide ((x5.size : Int) ≤ x6))) (Calm.int rfl rfl rfl rfl) ?_
            refine AQ.calm rfl 93 rfl (by decide) (eBool (decide ((x5.size : Int) ≤ x6))) (Calm.pickF rfl (congrArg (fun b => some (AV.fl (Value.bool b))) (eq_false_of_ne_true hc13)) rfl) ?_
            refine AQ.calm rfl 94 rfl (by decide) (eBool (decide ((x5.size : Int) ≤ x6))) (Calm.move rfl rfl) ?_
            by_cases hc14 : (x5.size : Int) ≤ x6
            · have hq12 := (if_pos hc14).symm.trans hq12
              refine AQ.skipG 14 true 94 rfl rfl (congrArg (fun b => some (AV.fl (Value.bool b))) (decide_eq_true hc14)) 95 rfl (by decide) ?_
              refine AQ.skipG 14 true 94 rfl rfl (congrArg (fun b => some (AV.fl (Value.bool b))) (decide_eq_true hc14)) 96 rfl (by decide) ?_
              refine AQ.skipG 14 true 94 rfl rfl (congrArg (fun b => some (AV.fl (Value.bool b))) (decide_eq_true hc14)) 97 rfl (by decide) ?_
              refine AQ.skipG 14 true 94 rfl rfl (congrArg (fun b => some (AV.fl (Value.bool b))) (decide_eq_true hc14)) 98 rfl (by decide) ?_
              refine AQ.skipG 14 true 94 rfl rfl (congrArg (fun b => some (AV.fl (Value.bool b))) (decide_eq_true hc14)) 99 rfl (by decide) ?_
              refine AQ.skipG 14 true 94 rfl rfl (congrArg (fun b => some (AV.fl (Value.bool b))) (decide_eq_true hc14)) 100 rfl (by decide) ?_
              refine AQ.skipG 14 true 94 rfl rfl (congrArg (fun b => some (AV.fl (Value.bool b))) (decide_eq_true hc14)) 101 rfl (by decide) ?_
              refine AQ.skipG 14 true 94 rfl rfl (congrArg (fun b => some (AV.fl (Value.bool b))) (decide_eq_true hc14)) 102 rfl (by decide) ?_
              refine AQ.skipG 14 true 94 rfl rfl (congrArg (fun b => some (AV.fl (Value.bool b))) (decide_eq_true hc14)) 103 rfl (by decide) ?_
              refine AQ.skipG 14 true 94 rfl rfl (congrArg (fun b => some (AV.fl (Value.bool b))) (decide_eq_true hc14)) 104 rfl (by decide) ?_
              refine AQ.calm rfl 105 rfl (by decide) (eBool true) (Calm.pickT rfl (congrArg (fun b => some (AV.fl (Value.bool b))) (decide_eq_true hc14)) rfl) ?_
              cases hq12
              refine AQ.nilE rfl ?_
              exact ⟨rfl, rfl, rfl, rfl, trivial⟩
            · have hq12 := (if_neg hc14).symm.trans hq12
              refine AQ.calmG 14 false 94 rfl rfl (congrArg (fun b => some (AV.fl (Value.bool b))) (decide_eq_false hc14)) 95 rfl (by decide) (.ptr q0 0) (Calm.move rfl rfl) ?_
              refine AQ.calmG 14 false 94 rfl rfl (congrArg (fun b => some (AV.fl (Value.bool b))) (decide_eq_false hc14)) 96 rfl (by decide) (.ptr q0 0) (Calm.nilCheck rfl rfl) ?_
              refine AQ.calmG 14 false 94 rfl rfl (congrArg (fun b => some (AV.fl (Value.bool b))) (decide_eq_false hc14)) 97 rfl (by decide) (.ptr q0 0) (Calm.fldPtr rfl rfl Try.underlying88 rfl sz9 _ rfl) ?_
              refine AQ.calmG 14 false 94 rfl rfl (congrArg (fun b => some (AV.fl (Value.bool b))) (decide_eq_false hc14)) 98 rfl (by decide) (eStr x5) (Calm.load 0 rfl rfl rfl (At.cast (At.fld0 At.here) rfl) ag9 sz9) ?_
              refine AQ.calmG 14 false 94 rfl rfl (congrArg (fun b => some (AV.fl (Value.bool b))) (decide_eq_false hc14)) 99 rfl (by decide) (.ptr q0 0) (Calm.move rfl rfl) ?_
              refine AQ.calmG 14 false 94 rfl rfl (congrArg (fun b => some (AV.fl (Value.bool b))) (decide_eq_false hc14)) 100 rfl (by decide) (.ptr q0 0) (Calm.nilCheck rfl rfl) ?_
              refine AQ.calmG 14 false 94 rfl rfl (congrArg (fun b => some (AV.fl (Value.bool b))) (decide_eq_false hc14)) 101 rfl (by decide) (.ptr q0 1) (Calm.fldPtr rfl rfl Try.underlying88 rfl sz3 _ rfl) ?_
              refine AQ.calmG 14 false 94 rfl rfl (congrArg (fun b => some (AV.fl (Value.bool b))) (decide_eq_false hc14)) 102 rfl (by decide) (eI64 x6) (Calm.load 0 rfl rfl rfl (At.cast (At.fldS (At.fld0 At.here)) rfl) ag3 sz3) ?_
              obtain ⟨hg15, hq12⟩ := of_guard hq12
              refine AQ.calmG 14 false 94 rfl rfl (congrArg (fun b => some (AV.fl (Value.bool b))) (decide_eq_false hc14)) 103 rfl (by decide) (eU8 (byteAt x5 x6)) (Calm.idxS rfl rfl rfl hg15 Try.underlying9) ?_
              refine AQ.calmG 14 false 94 rfl rfl (congrArg (fun b => some (AV.fl (Value.bool b))) (decide_eq_false hc14)) 104 rfl (by decide) (eBool (decide ((byteAt x5 x6) ≠ (41 : Int)))) (Calm.int rfl rfl rfl rfl) ?_
              refine AQ.calm rfl 105 rfl (by decide) (eBool (decide ((byteAt x5 x6) ≠ (41 : Int)))) (Calm.pickF rfl (congrArg (fun b => some (AV.fl (Value.bool b))) (decide_eq_false hc14)) rfl) ?_
              cases hq12
              refine AQ.nilE rfl ?_
              exact ⟨rfl, rfl, rfl, rfl, trivial⟩
        · by_cases hc16 : b11 = true
          · have h := (if_pos hc16).symm.trans h
            refine AW.condT' b11 rfl hc16 ?_
            refine AW.seq ?_
            refine AW.reg ?_
            refine AO.calm rfl 2 rfl (by decide) (.fl (.slice none 0 0)) (Calm.assign rfl rfl) ?_
            refine AO.calm rfl 3 rfl (by decide) (eBool false) (Calm.assign rfl rfl) ?_
            refine AO.nil (ρ' := [(2, (.fl (.slice none 0 0))), (3, (eBool false))]) (H' := ((q0, .mem (.st [(1, (eStr x5)), (1, (eI64 x6)), (1, (eI64 (w64 (x7 - (1 : Int)))))])) :: T0)) ⟨rfl, rfl, trivial⟩ (Sub.cons 0 rfl (Sub.drop (Sub.refl _))) ?_
            refine AW.coeC 2 (y' := (.fz 4 (([] : List S43).map e43))) rfl Coe.nil ?_
            refine AW.ret (ρ' := [(2, (.fz 4 (([] : List S43).map e43))), (3, (eBool false))]) (H' := ((q0, .mem (.st [(1, (eStr x5)), (1, (eI64 x6)), (1, (eI64 (w64 (x7 - (1 : Int)))))])) :: T0)) ⟨rfl, rfl, trivial⟩ (Sub.refl _) ?_
            have hr := Option.some.inj h
            subst hr
            exact ⟨[(.fz 4 (([] : List S43).map e43)), (eBool false)], ⟨rfl, rfl, rfl, rfl, trivial⟩, rfl, (Sub.cons 0 rfl (Sub.refl _))⟩
          · have h := (if_neg hc16).symm.trans h
            refine AW.condF' b11 rfl hc16 ?_
            refine AW.skip (ρ' := [(0, (.ptr q0 0)), (4, (eI64 t3.1)), (6, (.own n9 0 x10.length))]) (H' := ((q0, .mem (.st [(1, (eStr x5)), (1, (eI64 x6)), (1, (eI64 (w64 (x7 - (1 : Int)))))])) :: (n9, .mem (.ar 1 (x10.map e37))) :: T0)) ⟨rfl, rfl, rfl, trivial⟩ (Sub.refl _) ?_
            refine AW.seq ?_
            refine AW.reg ?_
            refine AO.calm rfl 106 rfl (by decide) (.ptr q0 0) (Calm.move rfl rfl) ?_
            refine AO.calm rfl 107 rfl (by decide) (.ptr q0 0) (Calm.nilCheck rfl rfl) ?_
            refine AO.calm rfl 108 rfl (by decide) (.ptr q0 1) (Calm.fldPtr rfl rfl Try.underlying88 rfl sz3 _ rfl) ?_
            refine AO.calm rfl 109 rfl (by decide) (eI64 x6) (Calm.load 0 rfl rfl rfl (At.cast (At.fldS (At.fld0 At.here)) rfl) ag3 sz3) ?_
            refine AO.calm rfl 110 rfl (by decide) (eI64 (w64 (x6 + (1 : Int)))) (Calm.int rfl rfl rfl rfl) ?_
            refine AO.calm rfl 111 rfl (by decide) (.ptr q0 0) (Calm.nilCheck rfl rfl) ?_
            refine AO.calm rfl 112 rfl (by decide) (.ptr q0 1) (Calm.fldPtr rfl rfl Try.underlying88 rfl sz3 _ rfl) ?_
            refine AO.store (X' := (.st [(1, (eStr x5)), (1, (eI64 (w64 (x6 + (1 : Int))))), (1, (eI64 (w64 (x7 - (1 : Int)))))])) 0 rfl rfl rfl rfl rfl rfl (Put.cast (Put.fldS (Put.fld0 Put.here)) rfl) rfl rfl sz3 rfl ?_
            refine AO.nil (ρ' := [(4, (eI64 t3.1)), (6, (.own n9 0 x10.length))]) (H' := ((q0, .mem (.st [(1, (eStr x5)), (1, (eI64 (w64 (x6 + (1 : Int))))), (1, (eI64 (w64 (x7 - (1 : Int)))))])) :: (n9, .mem (.ar 1 (x10.map e37))) :: T0)) ⟨rfl, rfl, trivial⟩ (Sub.refl _) ?_
            refine AW.seq ?_
            refine AW.reg ?_
            refine AO.calm rfl 113 rfl (by decide) (eI64 t3.1) (Calm.move rfl rfl) ?_
            refine AO.calm rfl 114 rfl (by decide) (.st [(1, (eBool false)), (1, (eI64 t3.1)), (1, (eI64 (0 : Int))), (1, (eStr ByteArray.empty))]) (Calm.build (qs := [(1, (eI64 t3.1))]) rfl ⟨rfl, rfl, rfl, trivial⟩ Try.underlying43 rfl zr43 lay43 (.cons rfl rfl rfl rfl (Put.cast (Put.fldS (Put.fld0 Put.here)) rfl) .nil) rfl) ?_
            refine AO.calm rfl 115 rfl (by decide) (.own n9 0 x10.length) (Calm.move rfl rfl) ?_
            obtain ⟨t17, et17, h⟩ := of_bind h
            refine AO.freezeS 1 [(6, (.fz 1 (x10.map e37))), (115, (.fz 1 (x10.map e37)))] rfl ⟨fz_all rfl, fz_all rfl, trivial⟩ ?_
            refine AO.callS [(e43 (S43.mk false t3.1 (0 : Int) ByteArray.empty)), (.fz 1 (x10.map e37))] (.fz 4 (t17.map e43)) 116 rfl (by decide) ok38 rfl rfl rfl ⟨rfl, rfl, rfl, rfl, trivial⟩ (ast_Join_spec et17) ?_
            refine AO.calm rfl 2 rfl (by decide) (.fz 4 (t17.map e43)) (Calm.assign rfl rfl) ?_
            refine AO.calm rfl 3 rfl (by decide) (eBool true) (Calm.assign rfl rfl) ?_
            refine AO.nil (ρ' := [(2, (.fz 4 (t17.map e43))), (3, (eBool true))]) (H' := ((q0, .mem (.st [(1, (eStr x5)), (1, (eI64 (w64 (x6 + (1 : Int))))), (1, (eI64 (w64 (x7 - (1 : Int)))))])) :: T0)) ⟨rfl, rfl, trivial⟩ (Sub.refl _) ?_
            refine AW.ret (ρ' := [(2, (.fz 4 (t17.map e43))), (3, (eBool true))]) (H' := ((q0, .mem (.st [(1, (eStr x5)), (1, (eI64 (w64 (x6 + (1 : Int))))), (1, (eI64 (w64 (x7 - (1 : Int)))))])) :: T0)) ⟨rfl, rfl, trivial⟩ (Sub.refl _) ?_
            have hr := Option.some.inj h
            subst hr
            exact ⟨[(.fz 4 (t17.map e43)), (eBool true)], ⟨rfl, rfl, rfl, rfl, trivial⟩, rfl, (Sub.cons 0 rfl (Sub.refl _))⟩
theorem ast_reader_tree_spec {k : Nat} {p0 : S88} {r : ((List S43) × Bool × S88)} (h : ast_reader_tree k p0 = some r) {q0 : Nat} {T0 : Heap} : SpecH Try.prog 62 [(.ptr q0 0)] ((q0, .mem (e88 p0)) :: T0) (fun x H' => x = .tup [(.fz 4 (r.1.map e43)), (eBool r.2.1)] ∧ Sub ((q0, .mem (e88 r.2.2)) :: T0) H') := (ast_reader_tree_all k k).1 p0 r h q0 T0
theorem ast_reader_node_spec {k : Nat} {p0 : S88} {r : ((List S43) × Bool × S88)} (h : ast_reader_node k p0 = some r) {q0 : Nat} {T0 : Heap} : SpecH Try.prog 83 [(.ptr q0 0)] ((q0, .mem (e88 p0)) :: T0) (fun x H' => x = .tup [(.fz 4 (r.1.map e43)), (eBool r.2.1)] ∧ Sub ((q0, .mem (e88 r.2.2)) :: T0) H') := (ast_reader_tree_all k k).2 p0 r h q0 T0

end Go.Avl.T2
/- bosket/ast.Read; printed by avmain.py. -/
namespace Go.Avl.T2
open Go Go.RowKit Go.Proofs Go.Avl
set_option linter.unusedVariables false
set_option maxRecDepth 100000
set_option maxHeartbeats 4000000
attribute [local irreducible] AW AO AQ Spec SpecH Calm

def ast_Read (k : Nat) (p0 : ByteArray) : Option ((List S43) × Bool) :=
  (ast_reader_tree k (S88.mk p0 (0 : Int) (0 : Int))).bind fun t3 =>
  Option.bind (α := Bool) (if (!t3.2.1) = true then some (true)
  else if t3.2.2.f1 ≠ (p0.size : Int) then some (true)
  else (ast_Show k t3.1).bind fun t9 =>
  some (decide (t9 ≠ p0))) fun b5 =>
  if b5 = true then some ([], false)
  else some (t3.1, true)
theorem ast_Read_spec {k : Nat} {p0 : ByteArray} {r : ((List S43) × Bool)} (h : ast_Read k p0 = some r) : Spec Try.prog 26 [(eStr p0)] (.tup [(.fz 4 (r.1.map e43)), (eBool r.2)]) := by
  rw [ast_Read.eq_1] at h
  refine Spec.intro (res := [.tmp 2, .tmp 3]) Try.func26 rfl rfl rfl (Nat.le_of_ble_eq_true rfl) ?_
  refine AW.seq ?_
  refine AW.reg ?_
  refine AO.calm rfl 2 rfl (by decide) (.fl (.slice none 0 0)) (Calm.assign rfl rfl) ?_
  refine AO.calm rfl 3 rfl (by decide) (eBool false) (Calm.assign rfl rfl) ?_
  refine AO.nil (ρ' := [(0, (eStr p0))]) (H' := []) ⟨rfl, trivial⟩ (Sub.refl _) ?_
  refine AW.seq ?_
  refine AW.reg ?_
  refine AO.calm rfl 7 rfl (by decide) (eStr p0) (Calm.move rfl rfl) ?_
  refine AO.calm rfl 8 rfl (by decide) (.st [(1, (eStr p0)), (1, (eI64 (0 : Int))), (1, (eI64 (0 : Int)))]) (Calm.build (qs := [(0, (eStr p0))]) rfl ⟨rfl, rfl, rfl, trivial⟩ Try.underlying88 rfl zr88 lay88 (.cons rfl rfl rfl rfl (Put.cast (Put.fld0 Put.here) rfl) .nil) rfl) ?_
  refine AO.box rfl 9 rfl (by decide) rfl rfl rfl fun n2 => ?_
  refine AO.calm rfl 4 rfl (by decide) (.ptr n2 0) (Calm.assign rfl rfl) ?_
  refine AO.nil (ρ' := [(0, (eStr p0)), (4, (.ptr n2 0))]) (H' := [(n2, .mem (e88 (S88.mk p0 (0 : Int) (0 : Int))))]) ⟨rfl, rfl, trivial⟩ (Sub.refl _) ?_
  refine AW.seq ?_
  refine AW.reg ?_
  refine AO.calm rfl 11 rfl (by decide) (.ptr n2 0) (Calm.move rfl rfl) ?_
  obtain ⟨t3, et3, h⟩ := of_bind h
  refine AO.callH [(.ptr n2 0)] [(n2, .mem (e88 (S88.mk p0 (0 : Int) (0 : Int))))] _ rfl rfl rfl 12 rfl (by decide) ok62 ⟨rfl, rfl, trivial⟩ (Sub.cons 0 rfl (Sub.refl _)) (ast_reader_tree_spec et3) ?_
  rintro _ _ ⟨rfl, hs4⟩
  refine AO.weak (ρ' := [(0, (eStr p0)), (4, (.ptr n2 0)), (11, (.ptr n2 0)), (12, (.tup [(.fz 4 (t3.1.map e43)), (eBool t3.2.1)]))]) (H' := [(n2, .mem (e88 t3.2.2))]) ⟨rfl, rfl, rfl, rfl, trivial⟩ hs4 ?_
  refine AO.calm rfl 10 rfl (by decide) (.tup [(.fz 4 (t3.1.map e43)), (eBool t3.2.1)]) (Calm.move rfl rfl) ?_
  refine AO.calm rfl 13 rfl (by decide) (.fz 4 (t3.1.map e43)) (Calm.extract rfl rfl rfl) ?_
  refine AO.calm rfl 14 rfl (by decide) (eBool t3.2.1) (Calm.extract rfl rfl rfl) ?_
  refine AO.calm rfl 5 rfl (by decide) (.fz 4 (t3.1.map e43)) (Calm.assign rfl rfl) ?_
  refine AO.calm rfl 6 rfl (by decide) (eBool t3.2.1) (Calm.assign rfl rfl) ?_
  refine AO.nil (ρ' := [(0, (eStr p0)), (4, (.ptr n2 0)), (5, (.fz 4 (t3.1.map e43))), (6, (eBool t3.2.1))]) (H' := [(n2, .mem (e88 t3.2.2))]) ⟨rfl, rfl, rfl, rfl, trivial⟩ (Sub.refl _) ?_
  refine AW.seq ?_
  refine AW.seq ?_
  obtain ⟨b5, hq6, h⟩ := of_bind h
  refine AW.regM [(5, (.fz 4 (t3.1.map e43))), (31, (eBool b5))] [] ?_ ?_
  · refine AO.calm rfl 15 rfl (by decide) (eBool t3.2.1) (Calm.move rfl rfl) ?_
    refine AO.calm rfl 16 rfl (by decide) (eBool (!t3.2.1)) (Calm.not rfl rfl) ?_
    refine AO.calm rfl 17 rfl (by decide) (eBool (!t3.2.1)) (Calm.move rfl rfl) ?_
    by_cases hc7 : (!t3.2.1) = true
    · have hq6 := (if_pos hc7).symm.trans hq6
      refine AO.skipG 2 true 17 rfl rfl (congrArg (fun b => some (AV.fl (Value.bool b))) hc7) 18 rfl (by decide) ?_
      refine AO.skipG 2 true 17 rfl rfl (congrArg (fun b => some (AV.fl (Value.bool b))) hc7) 19 rfl (by decide) ?_
      refine AO.skipG 2 true 17 rfl rfl (congrArg (fun b => some (AV.fl (Value.bool b))) hc7) 20 rfl (by decide) ?_
      refine AO.skipG 2 true 17 rfl rfl (congrArg (fun b => some (AV.fl (Value.bool b))) hc7) 21 rfl (by decide) ?_
      refine AO.skipG 2 true 17 rfl rfl (congrArg (fun b => some (AV.fl (Value.bool b))) hc7) 22 rfl (by decide) ?_
      refine AO.skipG 2 true 17 rfl rfl (congrArg (fun b => some (AV.fl (Value.bool b))) hc7) 23 rfl (by decide) ?_
      refine AO.skipG 2 true 17 rfl rfl (congrArg (fun b => some (AV.fl (Value.bool b))) hc7) 24 rfl (by decide) ?_
      refine AO.calm rfl 25 rfl (by decide) (eBool true) (Calm.pickT rfl (congrArg (fun b => some (AV.fl (Value.bool b))) hc7) rfl) ?_
      refine AO.calm rfl 26 rfl (by decide) (eBool true) (Calm.move rfl rfl) ?_
      refine AO.skipG 11 true 26 rfl rfl rfl 27 rfl (by decide) ?_
      refine AO.skipG 11 true 26 rfl rfl rfl 28 rfl (by decide) ?_
      refine AO.skipG 11 true 26 rfl rfl rfl 29 rfl (by decide) ?_
      refine AO.skipG 11 true 26 rfl rfl rfl 30 rfl (by decide) ?_
      refine AO.calm rfl 31 rfl (by decide) (eBool true) (Calm.pickT rfl rfl rfl) ?_
      cases hq6
      refine AO.nilE ⟨rfl, rfl⟩ ?_ ?_
      · exact ⟨rfl, rfl, trivial⟩
      · exact (Sub.nil _)
    · have hq6 := (if_neg hc7).symm.trans hq6
      refine AO.calmG 2 false 17 rfl rfl (congrArg (fun b => some (AV.fl (Value.bool b))) (eq_false_of_ne_true hc7)) 18 rfl (by decide) (.ptr n2 0) (Calm.move rfl rfl) ?_
      refine AO.calmG 2 false 17 rfl rfl (congrArg (fun b => some (AV.fl (Value.bool b))) (eq_false_of_ne_true hc7)) 19 rfl (by decide) (.ptr n2 0) (Calm.nilCheck rfl rfl) ?_
      refine AO.calmG 2 false 17 rfl rfl (congrArg (fun b => some (AV.fl (Value.bool b))) (eq_false_of_ne_true hc7)) 20 rfl (by decide) (.ptr n2 1) (Calm.fldPtr rfl rfl Try.underlying88 rfl sz3 _ rfl) ?_
      refine AO.calmG 2 false 17 rfl rfl (congrArg (fun b => some (AV.fl (Value.bool b))) (eq_false_of_ne_true hc7)) 21 rfl (by decide) (eI64 t3.2.2.f1) (Calm.load 0 rfl rfl rfl (At.cast (At.fldS (At.fld0 At.here)) rfl) ag3 sz3) ?_
      refine AO.calmG 2 false 17 rfl rfl (congrArg (fun b => some (AV.fl (Value.bool b))) (eq_false_of_ne_true hc7)) 22 rfl (by decide) (eStr p0) (Calm.move rfl rfl) ?_
      refine AO.calmG 2 false 17 rfl rfl (congrArg (fun b => some (AV.fl (Value.bool b))) (eq_false_of_ne_true hc7)) 23 rfl (by decide) (eI64 (p0.size : Int)) (Calm.lenStr rfl rfl Try.underlying9) ?_
      refine AO.calmG 2 false 17 rfl rfl (congrArg (fun b => some (AV.fl (Value.bool b))) (eq_false_of_ne_true hc7)) 24 rfl (by decide) (eBool (decide (t3.2.2.f1 ≠ (p0.size : Int)))) (Calm.int rfl rfl rfl rfl) ?_
      refine AO.calm rfl 25 rfl (by decide) (eBool (decide (t3.2.2.f1 ≠ (p0.size : Int)))) (Calm.pickF rfl (congrArg (fun b => some (AV.fl (Value.bool b))) (eq_false_of_ne_true hc7)) rfl) ?_
      refine AO.calm rfl 26 rfl (by decide) (eBool (decide (t3.2.2.f1 ≠ (p0.size : Int)))) (Calm.move rfl rfl) ?_
      by_cases hc8 : t3.2.2.f1 ≠ (p0.size : Int)
      · have hq6 := (if_pos hc8).symm.trans hq6
        refine AO.skipG 11 true 26 rfl rfl (congrArg (fun b => some (AV.fl (Value.bool b))) (decide_eq_true hc8)) 27 rfl (by decide) ?_
        refine AO.skipG 11 true 26 rfl rfl (congrArg (fun b => some (AV.fl (Value.bool b))) (decide_eq_true hc8)) 28 rfl (by decide) ?_
        refine AO.skipG 11 true 26 rfl rfl (congrArg (fun b => some (AV.fl (Value.bool b))) (decide_eq_true hc8)) 29 rfl (by decide) ?_
        refine AO.skipG 11 true 26 rfl rfl (congrArg (fun b => some (AV.fl (Value.bool b))) (decide_eq_true hc8)) 30 rfl (by decide) ?_
        refine AO.calm rfl 31 rfl (by decide) (eBool true) (Calm.pickT rfl (congrArg (fun b => some (AV.fl (Value.bool b))) (decide_eq_true hc8)) rfl) ?_
        cases hq6
        refine AO.nilE ⟨rfl, rfl⟩ ?_ ?_
        · exact ⟨rfl, rfl, trivial⟩
        · exact (Sub.nil _)
      · have hq6 := (if_neg hc8).symm.trans hq6
        refine AO.calmG 11 false 26 rfl rfl (congrArg (fun b => some (AV.fl (Value.bool b))) (decide_eq_false hc8)) 27 rfl (by decide) (.fz 4 (t3.1.map e43)) (Calm.move rfl rfl) ?_
        obtain ⟨t9, et9, hq6⟩ := of_bind hq6
        refine AO.callG 11 false 26 [(.fz 4 (t3.1.map e43))] (eStr t9) 28 rfl (by decide) ok23 rfl rfl (congrArg (fun b => some (AV.fl (Value.bool b))) (decide_eq_false hc8)) rfl rfl ⟨rfl, rfl, trivial⟩ (ast_Show_spec et9) ?_
        refine AO.calmG 11 false 26 rfl rfl (congrArg (fun b => some (AV.fl (Value.bool b))) (decide_eq_false hc8)) 29 rfl (by decide) (eStr p0) (Calm.move rfl rfl) ?_
        refine AO.calmG 11 false 26 rfl rfl (congrArg (fun b => some (AV.fl (Value.bool b))) (decide_eq_false hc8)) 30 rfl (by decide) (eBool (decide (t9 ≠ p0))) (Calm.str rfl rfl rfl rfl) ?_
        refine AO.calm rfl 31 rfl (by decide) (eBool (decide (t9 ≠ p0))) (Calm.pickF rfl (congrArg (fun b => some (AV.fl (Value.bool b))) (decide_eq_false hc8)) rfl) ?_
        cases hq6
        refine AO.nilE ⟨rfl, rfl⟩ ?_ ?_
        · exact ⟨rfl, rfl, trivial⟩
        · exact (Sub.nil _)
  · by_cases hc10 : b5 = true
    · have h := (if_pos hc10).symm.trans h
      refine AW.condT' b5 rfl hc10 ?_
      refine AW.seq ?_
      refine AW.reg ?_
      refine AO.calm rfl 2 rfl (by decide) (.fl (.slice none 0 0)) (Calm.assign rfl rfl) ?_
      refine AO.calm rfl 3 rfl (by decide) (eBool false) (Calm.assign rfl rfl) ?_
      refine AO.nil (ρ' := [(2, (.fl (.slice none 0 0))), (3, (eBool false))]) (H' := []) ⟨rfl, rfl, trivial⟩ (Sub.refl _) ?_
      refine AW.coeC 2 (y' := (.fz 4 (([] : List S43).map e43))) rfl Coe.nil ?_
      refine AW.ret (ρ' := [(2, (.fz 4 (([] : List S43).map e43))), (3, (eBool false))]) (H' := []) ⟨rfl, rfl, trivial⟩ (Sub.refl _) ?_
      have hr := Option.some.inj h
      subst hr
      exact ⟨[(.fz 4 (([] : List S43).map e43)), (eBool false)], ⟨rfl, rfl, rfl, rfl, trivial⟩, rfl⟩
    · have h := (if_neg hc10).symm.trans h
      refine AW.condF' b5 rfl hc10 ?_
      refine AW.skip (ρ' := [(5, (.fz 4 (t3.1.map e43)))]) (H' := []) ⟨rfl, trivial⟩ (Sub.refl _) ?_
      refine AW.seq ?_
      refine AW.reg ?_
      refine AO.calm rfl 32 rfl (by decide) (.fz 4 (t3.1.map e43)) (Calm.move rfl rfl) ?_
      refine AO.calm rfl 2 rfl (by decide) (.fz 4 (t3.1.map e43)) (Calm.assign rfl rfl) ?_
      refine AO.calm rfl 3 rfl (by decide) (eBool true) (Calm.assign rfl rfl) ?_
      refine AO.nil (ρ' := [(2, (.fz 4 (t3.1.map e43))), (3, (eBool true))]) (H' := []) ⟨rfl, rfl, trivial⟩ (Sub.refl _) ?_
      refine AW.ret (ρ' := [(2, (.fz 4 (t3.1.map e43))), (3, (eBool true))]) (H' := []) ⟨rfl, rfl, trivial⟩ (Sub.refl _) ?_
      have hr := Option.some.inj h
      subst hr
      exact ⟨[(.fz 4 (t3.1.map e43)), (eBool true)], ⟨rfl, rfl, rfl, rfl, trivial⟩, rfl⟩
end Go.Avl.T2
/- bosket/bosketref31.Read; printed by avmain.py. -/
namespace Go.Avl.T2
open Go Go.RowKit Go.Proofs Go.Avl
set_option linter.unusedVariables false
set_option maxRecDepth 100000
set_option maxHeartbeats 4000000
attribute [local irreducible] AW AO AQ Spec SpecH Calm

def bosketref31_Read (k : Nat) (p0 : ByteArray) : Option ((List S43) × Bool) :=
  (bosketref31_read k p0 (0 : Int) (1 : Int)).bind fun t2 =>
  Option.bind (α := Bool) (if t2.2 ≠ (p0.size : Int) then some (true)
  else (bosketref31_Right k t2.1).bind fun t6 =>
  if (!t6) = true then some (true)
  else (bosketref31_Show k t2.1).bind fun t8 =>
  some (decide (t8 ≠ p0))) fun b3 =>
  if b3 = true then some ([], false)
  else some (t2.1, true)
theorem bosketref31_Read_spec {k : Nat} {p0 : ByteArray} {r : ((List S43) × Bool)} (h : bosketref31_Read k p0 = some r) : Spec Try.prog 28 [(eStr p0)] (.tup [(.fz 4 (r.1.map e43)), (eBool r.2)]) := by
  rw [bosketref31_Read.eq_1] at h
  refine Spec.intro (res := [.tmp 2, .tmp 3]) Try.func28 rfl rfl rfl (Nat.le_of_ble_eq_true rfl) ?_
  refine AW.seq ?_
  refine AW.reg ?_
  refine AO.calm rfl 2 rfl (by decide) (.fl (.slice none 0 0)) (Calm.assign rfl rfl) ?_
  refine AO.calm rfl 3 rfl (by decide) (eBool false) (Calm.assign rfl rfl) ?_
  refine AO.nil (ρ' := [(0, (eStr p0))]) (H' := []) ⟨rfl, trivial⟩ (Sub.refl _) ?_
  refine AW.seq ?_
  refine AW.reg ?_
  refine AO.calm rfl 7 rfl (by decide) (eStr p0) (Calm.move rfl rfl) ?_
  obtain ⟨t2, et2, h⟩ := of_bind h
  refine AO.callS [(eStr p0), (eI64 (0 : Int)), (eI64 (1 : Int))] (.tup [(.fz 4 (t2.1.map e43)), (eI64 t2.2)]) 8 rfl (by decide) ok63 rfl rfl rfl ⟨rfl, rfl, rfl, rfl, rfl, rfl, trivial⟩ (bosketref31_read_spec et2) ?_
  refine AO.calm rfl 6 rfl (by decide) (.tup [(.fz 4 (t2.1.map e43)), (eI64 t2.2)]) (Calm.move rfl rfl) ?_
  refine AO.calm rfl 9 rfl (by decide) (.fz 4 (t2.1.map e43)) (Calm.extract rfl rfl rfl) ?_
  refine AO.calm rfl 10 rfl (by decide) (eI64 t2.2) (Calm.extract rfl rfl rfl) ?_
  refine AO.calm rfl 4 rfl (by decide) (.fz 4 (t2.1.map e43)) (Calm.assign rfl rfl) ?_
  refine AO.calm rfl 5 rfl (by decide) (eI64 t2.2) (Calm.assign rfl rfl) ?_
  refine AO.nil (ρ' := [(0, (eStr p0)), (4, (.fz 4 (t2.1.map e43))), (5, (eI64 t2.2))]) (H' := []) ⟨rfl, rfl, rfl, trivial⟩ (Sub.refl _) ?_
  refine AW.seq ?_
  refine AW.seq ?_
  obtain ⟨b3, hq4, h⟩ := of_bind h
  refine AW.regM [(4, (.fz 4 (t2.1.map e43))), (25, (eBool b3))] [] ?_ ?_
  · refine AO.calm rfl 11 rfl (by decide) (eI64 t2.2) (Calm.move rfl rfl) ?_
    refine AO.calm rfl 12 rfl (by decide) (eStr p0) (Calm.move rfl rfl) ?_
    refine AO.calm rfl 13 rfl (by decide) (eI64 (p0.size : Int)) (Calm.lenStr rfl rfl Try.underlying9) ?_
    refine AO.calm rfl 14 rfl (by decide) (eBool (decide (t2.2 ≠ (p0.size : Int)))) (Calm.int rfl rfl rfl rfl) ?_
    refine AO.calm rfl 15 rfl (by decide) (eBool (decide (t2.2 ≠ (p0.size : Int)))) (Calm.move rfl rfl) ?_
    by_cases hc5 : t2.2 ≠ (p0.size : Int)
    · have hq4 := (if_pos hc5).symm.trans hq4
      refine AO.skipG 4 true 15 rfl rfl (congrArg (fun b => some (AV.fl (Value.bool b))) (decide_eq_true hc5)) 16 rfl (by decide) ?_
      refine AO.skipG 4 true 15 rfl rfl (congrArg (fun b => some (AV.fl (Value.bool b))) (decide_eq_true hc5)) 17 rfl (by decide) ?_
      refine AO.skipG 4 true 15 rfl rfl (congrArg (fun b => some (AV.fl (Value.bool b))) (decide_eq_true hc5)) 18 rfl (by decide) ?_
      refine AO.calm rfl 19 rfl (by decide) (eBool true) (Calm.pickT rfl (congrArg (fun b => some (AV.fl (Value.bool b))) (decide_eq_true hc5)) rfl) ?_
      refine AO.calm rfl 20 rfl (by decide) (eBool true) (Calm.move rfl rfl) ?_
      refine AO.skipG 9 true 20 rfl rfl rfl 21 rfl (by decide) ?_
      refine AO.skipG 9 true 20 rfl rfl rfl 22 rfl (by decide) ?_
      refine AO.skipG 9 true 20 rfl rfl rfl 23 rfl (by decide) ?_
      refine AO.skipG 9 true 20 rfl rfl rfl 24 rfl (by decide) ?_
      refine AO.calm rfl 25 rfl (by decide) (eBool true) (Calm.pickT rfl rfl rfl) ?_
      cases hq4
      refine AO.nilE ⟨rfl, rfl⟩ ?_ ?_
      · exact ⟨rfl, rfl, trivial⟩
      · exact (Sub.refl _)
    · have hq4 := (if_neg hc5).symm.trans hq4
      refine AO.calmG 4 false 15 rfl rfl (congrArg (fun b => some (AV.fl (Value.bool b))) (decide_eq_false hc5)) 16 rfl (by decide) (.fz 4 (t2.1.map e43)) (Calm.move rfl rfl) ?_
      obtain ⟨t6, et6, hq4⟩ := of_bind hq4
      refine AO.callG 4 false 15 [(.fz 4 (t2.1.map e43))] (eBool t6) 17 rfl (by decide) ok24 rfl rfl (congrArg (fun b => some (AV.fl (Value.bool b))) (decide_eq_false hc5)) rfl rfl ⟨rfl, rfl, trivial⟩ (bosketref31_Right_spec et6) ?_
      refine AO.calmG 4 false 15 rfl rfl (congrArg (fun b => some (AV.fl (Value.bool b))) (decide_eq_false hc5)) 18 rfl (by decide) (eBool (!t6)) (Calm.not rfl rfl) ?_
      refine AO.calm rfl 19 rfl (by decide) (eBool (!t6)) (Calm.pickF rfl (congrArg (fun b => some (AV.fl (Value.bool b))) (decide_eq_false hc5)) rfl) ?_
      refine AO.calm rfl 20 rfl (by decide) (eBool (!t6)) (Calm.move rfl rfl) ?_
      by_cases hc7 : (!t6) = true
      · have hq4 := (if_pos hc7).symm.trans hq4
        refine AO.skipG 9 true 20 rfl rfl (congrArg (fun b => some (AV.fl (Value.bool b))) hc7) 21 rfl (by decide) ?_
        refine AO.skipG 9 true 20 rfl rfl (congrArg (fun b => some (AV.fl (Value.bool b))) hc7) 22 rfl (by decide) ?_
        refine AO.skipG 9 true 20 rfl rfl (congrArg (fun b => some (AV.fl (Value.bool b))) hc7) 23 rfl (by decide) ?_
        refine AO.skipG 9 true 20 rfl rfl (congrArg (fun b => some (AV.fl (Value.bool b))) hc7) 24 rfl (by decide) ?_
        refine AO.calm rfl 25 rfl (by decide) (eBool true) (Calm.pickT rfl (congrArg (fun b => some (AV.fl (Value.bool b))) hc7) rfl) ?_
        cases hq4
        refine AO.nilE ⟨rfl, rfl⟩ ?_ ?_
        · exact ⟨rfl, rfl, trivial⟩
        · exact (Sub.refl _)
      · have hq4 := (if_neg hc7).symm.trans hq4
        refine AO.calmG 9 false 20 rfl rfl (congrArg (fun b => some (AV.fl (Value.bool b))) (eq_false_of_ne_true hc7)) 21 rfl (by decide) (.fz 4 (t2.1.map e43)) (Calm.move rfl rfl) ?_
        obtain ⟨t8, et8, hq4⟩ := of_bind hq4
        refine AO.callG 9 false 20 [(.fz 4 (t2.1.map e43))] (eStr t8) 22 rfl (by decide) ok25 rfl rfl (congrArg (fun b => some (AV.fl (Value.bool b))) (eq_false_of_ne_true hc7)) rfl rfl ⟨rfl, rfl, trivial⟩ (bosketref31_Show_spec et8) ?_
        refine AO.calmG 9 false 20 rfl rfl (congrArg (fun b => some (AV.fl (Value.bool b))) (eq_false_of_ne_true hc7)) 23 rfl (by decide) (eStr p0) (Calm.move rfl rfl) ?_
        refine AO.calmG 9 false 20 rfl rfl (congrArg (fun b => some (AV.fl (Value.bool b))) (eq_false_of_ne_true hc7)) 24 rfl (by decide) (eBool (decide (t8 ≠ p0))) (Calm.str rfl rfl rfl rfl) ?_
        refine AO.calm rfl 25 rfl (by decide) (eBool (decide (t8 ≠ p0))) (Calm.pickF rfl (congrArg (fun b => some (AV.fl (Value.bool b))) (eq_false_of_ne_true hc7)) rfl) ?_
        cases hq4
        refine AO.nilE ⟨rfl, rfl⟩ ?_ ?_
        · exact ⟨rfl, rfl, trivial⟩
        · exact (Sub.refl _)
  · by_cases hc9 : b3 = true
    · have h := (if_pos hc9).symm.trans h
      refine AW.condT' b3 rfl hc9 ?_
      refine AW.seq ?_
      refine AW.reg ?_
      refine AO.calm rfl 2 rfl (by decide) (.fl (.slice none 0 0)) (Calm.assign rfl rfl) ?_
      refine AO.calm rfl 3 rfl (by decide) (eBool false) (Calm.assign rfl rfl) ?_
      refine AO.nil (ρ' := [(2, (.fl (.slice none 0 0))), (3, (eBool false))]) (H' := []) ⟨rfl, rfl, trivial⟩ (Sub.refl _) ?_
      refine AW.coeC 2 (y' := (.fz 4 (([] : List S43).map e43))) rfl Coe.nil ?_
      refine AW.ret (ρ' := [(2, (.fz 4 (([] : List S43).map e43))), (3, (eBool false))]) (H' := []) ⟨rfl, rfl, trivial⟩ (Sub.refl _) ?_
      have hr := Option.some.inj h
      subst hr
      exact ⟨[(.fz 4 (([] : List S43).map e43)), (eBool false)], ⟨rfl, rfl, rfl, rfl, trivial⟩, rfl⟩
    · have h := (if_neg hc9).symm.trans h
      refine AW.condF' b3 rfl hc9 ?_
      refine AW.skip (ρ' := [(4, (.fz 4 (t2.1.map e43)))]) (H' := []) ⟨rfl, trivial⟩ (Sub.refl _) ?_
      refine AW.seq ?_
      refine AW.reg ?_
      refine AO.calm rfl 26 rfl (by decide) (.fz 4 (t2.1.map e43)) (Calm.move rfl rfl) ?_
      refine AO.calm rfl 2 rfl (by decide) (.fz 4 (t2.1.map e43)) (Calm.assign rfl rfl) ?_
      refine AO.calm rfl 3 rfl (by decide) (eBool true) (Calm.assign rfl rfl) ?_
      refine AO.nil (ρ' := [(2, (.fz 4 (t2.1.map e43))), (3, (eBool true))]) (H' := []) ⟨rfl, rfl, trivial⟩ (Sub.refl _) ?_
      refine AW.ret (ρ' := [(2, (.fz 4 (t2.1.map e43))), (3, (eBool true))]) (H' := []) ⟨rfl, rfl, trivial⟩ (Sub.refl _) ?_
      have hr := Option.some.inj h
      subst hr
      exact ⟨[(.fz 4 (t2.1.map e43)), (eBool true)], ⟨rfl, rfl, rfl, rfl, trivial⟩, rfl⟩
end Go.Avl.T2
/- bosket/bosketlaw31.awake; printed by avmain.py. -/
namespace Go.Avl.T2
open Go Go.RowKit Go.Proofs Go.Avl
set_option linter.unusedVariables false
set_option maxRecDepth 100000
set_option maxHeartbeats 4000000
attribute [local irreducible] AW AO AQ Spec SpecH Calm

def bosketlaw31_awake (k : Nat) : Option Bool :=
  (ast_Read k (ByteArray.mk #[40, 49, 32, 48, 58, 34, 97, 34, 32, 40, 50, 41, 41])).bind fun t1 =>
  Option.bind (α := Bool) (if t1.2 = true then if (t1.1.length : Int) = (3 : Int) then if 0 ≤ (0 : Int) ∧ (0 : Int) < (t1.1.length : Int) then if ((lget t1.1 (0 : Int)).f2) = (2 : Int) then if 0 ≤ (1 : Int) ∧ (1 : Int) < (t1.1.length : Int) then if ((lget t1.1 (1 : Int)).f0) = true then if 0 ≤ (1 : Int) ∧ (1 : Int) < (t1.1.length : Int) then if ((lget t1.1 (1 : Int)).f3) = (ByteArray.mk #[97]) then if 0 ≤ (2 : Int) ∧ (2 : Int) < (t1.1.length : Int) then some (decide (((lget t1.1 (2 : Int)).f1) = (2 : Int)))
  else none
  else some (false)
  else none
  else some (false)
  else none
  else some (false)
  else none
  else some (false)
  else some (false)) fun b2 =>
  some (b2)
theorem bosketlaw31_awake_spec {k : Nat}  {r : Bool} (h : bosketlaw31_awake k = some r) : Spec Try.prog 21 [] (eBool r) := by
  rw [bosketlaw31_awake.eq_1] at h
  refine Spec.intro (res := [.tmp 0]) Try.func21 rfl rfl rfl (Nat.le_of_ble_eq_true rfl) ?_
  refine AW.seq ?_
  refine AW.reg ?_
  refine AO.calm rfl 0 rfl (by decide) (eBool false) (Calm.assign rfl rfl) ?_
  refine AO.nil (ρ' := []) (H' := []) trivial (Sub.refl _) ?_
  refine AW.seq ?_
  refine AW.reg ?_
  obtain ⟨t1, et1, h⟩ := of_bind h
  refine AO.callS [(eStr (ByteArray.mk #[40, 49, 32, 48, 58, 34, 97, 34, 32, 40, 50, 41, 41]))] (.tup [(.fz 4 (t1.1.map e43)), (eBool t1.2)]) 4 rfl (by decide) ok26 rfl rfl rfl ⟨rfl, rfl, trivial⟩ (ast_Read_spec et1) ?_
  refine AO.calm rfl 3 rfl (by decide) (.tup [(.fz 4 (t1.1.map e43)), (eBool t1.2)]) (Calm.move rfl rfl) ?_
  refine AO.calm rfl 5 rfl (by decide) (.fz 4 (t1.1.map e43)) (Calm.extract rfl rfl rfl) ?_
  refine AO.calm rfl 6 rfl (by decide) (eBool t1.2) (Calm.extract rfl rfl rfl) ?_
  refine AO.calm rfl 1 rfl (by decide) (.fz 4 (t1.1.map e43)) (Calm.assign rfl rfl) ?_
  refine AO.calm rfl 2 rfl (by decide) (eBool t1.2) (Calm.assign rfl rfl) ?_
  refine AO.nil (ρ' := [(1, (.fz 4 (t1.1.map e43))), (2, (eBool t1.2))]) (H' := []) ⟨rfl, rfl, trivial⟩ (Sub.refl _) ?_
  refine AW.seq ?_
  obtain ⟨b2, hq3, h⟩ := of_bind h
  refine AW.regM [(0, (eBool b2))] [] ?_ ?_
  · refine AO.calm rfl 7 rfl (by decide) (eBool t1.2) (Calm.move rfl rfl) ?_
    refine AO.calm rfl 8 rfl (by decide) (eBool t1.2) (Calm.move rfl rfl) ?_
    by_cases hc4 : t1.2 = true
    · have hq3 := (if_pos hc4).symm.trans hq3
      refine AO.calmG 1 true 8 rfl rfl (congrArg (fun b => some (AV.fl (Value.bool b))) hc4) 9 rfl (by decide) (.fz 4 (t1.1.map e43)) (Calm.move rfl rfl) ?_
      refine AO.calmG 1 true 8 rfl rfl (congrArg (fun b => some (AV.fl (Value.bool b))) hc4) 10 rfl (by decide) (eI64 (t1.1.length : Int)) (Calm.lenL rfl rfl Try.underlying37) ?_
      refine AO.calmG 1 true 8 rfl rfl (congrArg (fun b => some (AV.fl (Value.bool b))) hc4) 11 rfl (by decide) (eBool (decide ((t1.1.length : Int) = (3 : Int)))) (Calm.int rfl rfl rfl rfl) ?_
      refine AO.calm rfl 12 rfl (by decide) (eBool (decide ((t1.1.length : Int) = (3 : Int)))) (Calm.pickT rfl (congrArg (fun b => some (AV.fl (Value.bool b))) hc4) rfl) ?_
      refine AO.calm rfl 13 rfl (by decide) (eBool (decide ((t1.1.length : Int) = (3 : Int)))) (Calm.move rfl rfl) ?_
      by_cases hc5 : (t1.1.length : Int) = (3 : Int)
      · have hq3 := (if_pos hc5).symm.trans hq3
        refine AO.calmG 6 true 13 rfl rfl (congrArg (fun b => some (AV.fl (Value.bool b))) (decide_eq_true hc5)) 14 rfl (by decide) (.fz 4 (t1.1.map e43)) (Calm.move rfl rfl) ?_
        obtain ⟨hg6, hq3⟩ := of_guard hq3
        refine AO.calmG 6 true 13 rfl rfl (congrArg (fun b => some (AV.fl (Value.bool b))) (decide_eq_true hc5)) 15 rfl (by decide) (.rp (e43 (lget t1.1 (0 : Int)))) (Calm.idxL (f := e43) rfl rfl rfl hg6 Try.underlying37 sz43) ?_
        refine AO.calmG 6 true 13 rfl rfl (congrArg (fun b => some (AV.fl (Value.bool b))) (decide_eq_true hc5)) 16 rfl (by decide) (.rp (eI64 ((lget t1.1 (0 : Int)).f2))) (Calm.fldRp rfl rfl Try.underlying43 rfl sz3 (At.cast (At.fldS (At.fldS (At.fld0 At.here))) rfl)) ?_
        refine AO.calmG 6 true 13 rfl rfl (congrArg (fun b => some (AV.fl (Value.bool b))) (decide_eq_true hc5)) 17 rfl (by decide) (eI64 ((lget t1.1 (0 : Int)).f2)) (Calm.loadRp rfl rfl ag3 sz3) ?_
        refine AO.calmG 6 true 13 rfl rfl (congrArg (fun b => some (AV.fl (Value.bool b))) (decide_eq_true hc5)) 18 rfl (by decide) (eBool (decide (((lget t1.1 (0 : Int)).f2) = (2 : Int)))) (Calm.int rfl rfl rfl rfl) ?_
        refine AO.calm rfl 19 rfl (by decide) (eBool (decide (((lget t1.1 (0 : Int)).f2) = (2 : Int)))) (Calm.pickT rfl (congrArg (fun b => some (AV.fl (Value.bool b))) (decide_eq_true hc5)) rfl) ?_
        refine AO.calm rfl 20 rfl (by decide) (eBool (decide (((lget t1.1 (0 : Int)).f2) = (2 : Int)))) (Calm.move rfl rfl) ?_
        by_cases hc7 : ((lget t1.1 (0 : Int)).f2) = (2 : Int)
        · have hq3 := (if_pos hc7).symm.trans hq3
          refine AO.calmG 13 true 20 rfl rfl (congrArg (fun b => some (AV.fl (Value.bool b))) (decide_eq_true hc7)) 21 rfl (by decide) (.fz 4 (t1.1.map e43)) (Calm.move rfl rfl) ?_
          obtain ⟨hg8, hq3⟩ := of_guard hq3
          refine AO.calmG 13 true 20 rfl rfl (congrArg (fun b => some (AV.fl (Value.bool b))) (decide_eq_true hc7)) 22 rfl (by decide) (.rp (e43 (lget t1.1 (1 : Int)))) (Calm.idxL (f := e43) rfl rfl rfl hg8 Try.underlying37 sz43) ?_
          refine AO.calmG 13 true 20 rfl rfl (congrArg (fun b => some (AV.fl (Value.bool b))) (decide_eq_true hc7)) 23 rfl (by decide) (.rp (eBool ((lget t1.1 (1 : Int)).f0))) (Calm.fldRp rfl rfl Try.underlying43 rfl sz4 (At.cast (At.fld0 At.here) rfl)) ?_
          refine AO.calmG 13 true 20 rfl rfl (congrArg (fun b => some (AV.fl (Value.bool b))) (decide_eq_true hc7)) 24 rfl (by decide) (eBool ((lget t1.1 (1 : Int)).f0)) (Calm.loadRp rfl rfl ag4 sz4) ?_
          refine AO.calm rfl 25 rfl (by decide) (eBool ((lget t1.1 (1 : Int)).f0)) (Calm.pickT rfl (congrArg (fun b => some (AV.fl (Value.bool b))) (decide_eq_true hc7)) rfl) ?_
          refine AO.calm rfl 26 rfl (by decide) (eBool ((lget t1.1 (1 : Int)).f0)) (Calm.move rfl rfl) ?_
          by_cases hc9 : ((lget t1.1 (1 : Int)).f0) = true
          · have hq3 := (if_pos hc9).symm.trans hq3
            refine AO.calmG 19 true 26 rfl rfl (congrArg (fun b => some (AV.fl (Value.bool b))) hc9) 27 rfl (by decide) (.fz 4 (t1.1.map e43)) (Calm.move rfl rfl) ?_
            obtain ⟨hg10, hq3⟩ := of_guard hq3
            refine AO.calmG 19 true 26 rfl rfl (congrArg (fun b => some (AV.fl (Value.bool b))) hc9) 28 rfl (by decide) (.rp (e43 (lget t1.1 (1 : Int)))) (Calm.idxL (f := e43) rfl rfl rfl hg10 Try.underlying37 sz43) ?_
            refine AO.calmG 19 true 26 rfl rfl (congrArg (fun b => some (AV.fl (Value.bool b))) hc9) 29 rfl (by decide) (.rp (eStr ((lget t1.1 (1 : Int)).f3))) (Calm.fldRp rfl rfl Try.underlying43 rfl sz9 (At.cast (At.fldS (At.fldS (At.fldS (At.fld0 At.here)))) rfl)) ?_
            refine AO.calmG 19 true 26 rfl rfl (congrArg (fun b => some (AV.fl (Value.bool b))) hc9) 30 rfl (by decide) (eStr ((lget t1.1 (1 : Int)).f3)) (Calm.loadRp rfl rfl ag9 sz9) ?_
            refine AO.calmG 19 true 26 rfl rfl (congrArg (fun b => some (AV.fl (Value.bool b))) hc9) 31 rfl (by decide) (eBool (decide (((lget t1.1 (1 : Int)).f3) = (ByteArray.mk #[97])))) (Calm.str rfl rfl rfl rfl) ?_
            refine AO.calm rfl 32 rfl (by decide) (eBool (decide (((lget t1.1 (1 : Int)).f3) = (ByteArray.mk #[97])))) (Calm.pickT rfl (congrArg (fun b => some (AV.fl (Value.bool b))) hc9) rfl) ?_
            refine AO.calm rfl 33 rfl (by decide) (eBool (decide (((lget t1.1 (1 : Int)).f3) = (ByteArray.mk #[97])))) (Calm.move rfl rfl) ?_
            by_cases hc11 : ((lget t1.1 (1 : Int)).f3) = (ByteArray.mk #[97])
            · have hq3 := (if_pos hc11).symm.trans hq3
              refine AO.calmG 26 true 33 rfl rfl (congrArg (fun b => some (AV.fl (Value.bool b))) (decide_eq_true hc11)) 34 rfl (by decide) (.fz 4 (t1.1.map e43)) (Calm.move rfl rfl) ?_
              obtain ⟨hg12, hq3⟩ := of_guard hq3
              refine AO.calmG 26 true 33 rfl rfl (congrArg (fun b => some (AV.fl (Value.bool b))) (decide_eq_true hc11)) 35 rfl (by decide) (.rp (e43 (lget t1.1 (2 : Int)))) (Calm.idxL (f := e43) rfl rfl rfl hg12 Try.underlying37 sz43) ?_
              refine AO.calmG 26 true 33 rfl rfl (congrArg (fun b => some (AV.fl (Value.bool b))) (decide_eq_true hc11)) 36 rfl (by decide) (.rp (eI64 ((lget t1.1 (2 : Int)).f1))) (Calm.fldRp rfl rfl Try.underlying43 rfl sz3 (At.cast (At.fldS (At.fld0 At.here)) rfl)) ?_
              refine AO.calmG 26 true 33 rfl rfl (congrArg (fun b => some (AV.fl (Value.bool b))) (decide_eq_true hc11)) 37 rfl (by decide) (eI64 ((lget t1.1 (2 : Int)).f1)) (Calm.loadRp rfl rfl ag3 sz3) ?_
              refine AO.calmG 26 true 33 rfl rfl (congrArg (fun b => some (AV.fl (Value.bool b))) (decide_eq_true hc11)) 38 rfl (by decide) (eBool (decide (((lget t1.1 (2 : Int)).f1) = (2 : Int)))) (Calm.int rfl rfl rfl rfl) ?_
              refine AO.calm rfl 39 rfl (by decide) (eBool (decide (((lget t1.1 (2 : Int)).f1) = (2 : Int)))) (Calm.pickT rfl (congrArg (fun b => some (AV.fl (Value.bool b))) (decide_eq_true hc11)) rfl) ?_
              refine AO.calm rfl 0 rfl (by decide) (eBool (decide (((lget t1.1 (2 : Int)).f1) = (2 : Int)))) (Calm.assign rfl rfl) ?_
              cases hq3
              refine AO.nilE ⟨rfl, rfl⟩ ?_ ?_
              · exact ⟨rfl, trivial⟩
              · exact (Sub.refl _)
            · have hq3 := (if_neg hc11).symm.trans hq3
              refine AO.skipG 26 false 33 rfl rfl (congrArg (fun b => some (AV.fl (Value.bool b))) (decide_eq_false hc11)) 34 rfl (by decide) ?_
              refine AO.skipG 26 false 33 rfl rfl (congrArg (fun b => some (AV.fl (Value.bool b))) (decide_eq_false hc11)) 35 rfl (by decide) ?_
              refine AO.skipG 26 false 33 rfl rfl (congrArg (fun b => some (AV.fl (Value.bool b))) (decide_eq_false hc11)) 36 rfl (by decide) ?_
              refine AO.skipG 26 false 33 rfl rfl (congrArg (fun b => some (AV.fl (Value.bool b))) (decide_eq_false hc11)) 37 rfl (by decide) ?_
              refine AO.skipG 26 false 33 rfl rfl (congrArg (fun b => some (AV.fl (Value.bool b))) (decide_eq_false hc11)) 38 rfl (by decide) ?_
              refine AO.calm rfl 39 rfl (by decide) (eBool false) (Calm.pickF rfl (congrArg (fun b => some (AV.fl (Value.bool b))) (decide_eq_false hc11)) rfl) ?_
              refine AO.calm rfl 0 rfl (by decide) (eBool false) (Calm.assign rfl rfl) ?_
              cases hq3
              refine AO.nilE ⟨rfl, rfl⟩ ?_ ?_
              · exact ⟨rfl, trivial⟩
              · exact (Sub.refl _)
          · have hq3 := (if_neg hc9).symm.trans hq3
            refine AO.skipG 19 false 26 rfl rfl (congrArg (fun b => some (AV.fl (Value.bool b))) (eq_false_of_ne_true hc9)) 27 rfl (by decide) ?_
            refine AO.skipG 19 false 26 rfl rfl (congrArg (fun b => some (AV.fl (Value.bool b))) (eq_false_of_ne_true hc9)) 28 rfl (by decide) ?_
            refine AO.skipG 19 false 26 rfl rfl (congrArg (fun b => some (AV.fl (Value.bool b))) (eq_false_of_ne_true hc9)) 29 rfl (by decide) ?_
            refine AO.skipG 19 false 26 rfl rfl (congrArg (fun b => some (AV.fl (Value.bool b))) (eq_false_of_ne_true hc9)) 30 rfl (by decide) ?_
            refine AO.skipG 19 false 26 rfl rfl (congrArg (fun b => some (AV.fl (Value.bool b))) (eq_false_of_ne_true hc9)) 31 rfl (by decide) ?_
            refine AO.calm rfl 32 rfl (by decide) (eBool false) (Calm.pickF rfl (congrArg (fun b => some (AV.fl (Value.bool b))) (eq_false_of_ne_true hc9)) rfl) ?_
            refine AO.calm rfl 33 rfl (by decide) (eBool false) (Calm.move rfl rfl) ?_
            refine AO.skipG 26 false 33 rfl rfl rfl 34 rfl (by decide) ?_
            refine AO.skipG 26 false 33 rfl rfl rfl 35 rfl (by decide) ?_
            refine AO.skipG 26 false 33 rfl rfl rfl 36 rfl (by decide) ?_
            refine AO.skipG 26 false 33 rfl rfl rfl 37 rfl (by decide) ?_
            refine AO.skipG 26 false 33 rfl rfl rfl 38 rfl (by decide) ?_
            refine AO.calm rfl 39 rfl (by decide) (eBool false) (Calm.pickF rfl rfl rfl) ?_
            refine AO.calm rfl 0 rfl (by decide) (eBool false) (Calm.assign rfl rfl) ?_
            cases hq3
            refine AO.nilE ⟨rfl, rfl⟩ ?_ ?_
            · exact ⟨rfl, trivial⟩
            · exact (Sub.refl _)
        · have hq3 := (if_neg hc7).symm.trans hq3
          refine AO.skipG 13 false 20 rfl rfl (congrArg (fun b => some (AV.fl (Value.bool b))) (decide_eq_false hc7)) 21 rfl (by decide) ?_
          refine AO.skipG 13 false 20 rfl rfl (congrArg (fun b => some (AV.fl (Value.bool b))) (decide_eq_false hc7)) 22 rfl (by decide) ?_
          refine AO.skipG 13 false 20 rfl rfl (congrArg (fun b => some (AV.fl (Value.bool b))) (decide_eq_false hc7)) 23 rfl (by decide) ?_
          refine AO.skipG 13 false 20 rfl rfl (congrArg (fun b => some (AV.fl (Value.bool b))) (decide_eq_false hc7)) 24 rfl (by decide) ?_
          refine AO.calm rfl 25 rfl (by decide) (eBool false) (Calm.pickF rfl (congrArg (fun b => some (AV.fl (Value.bool b))) (decide_eq_false hc7)) rfl) ?_
          refine AO.calm rfl 26 rfl (by decide) (eBool false) (Calm.move rfl rfl) ?_
          refine AO.skipG 19 false 26 rfl rfl rfl 27 rfl (by decide) ?_
          refine AO.skipG 19 false 26 rfl rfl rfl 28 rfl (by decide) ?_
          refine AO.skipG 19 false 26 rfl rfl rfl 29 rfl (by decide) ?_
          refine AO.skipG 19 false 26 rfl rfl rfl 30 rfl (by decide) ?_
          refine AO.skipG 19 false 26 rfl rfl rfl 31 rfl (by decide) ?_
          refine AO.calm rfl 32 rfl (by decide) (eBool false) (Calm.pickF rfl rfl rfl) ?_
          refine AO.calm rfl 33 rfl (by decide) (eBool false) (Calm.move rfl rfl) ?_
          refine AO.skipG 26 false 33 rfl rfl rfl 34 rfl (by decide) ?_
          refine AO.skipG 26 false 33 rfl rfl rfl 35 rfl (by decide) ?_
          refine AO.skipG 26 false 33 rfl rfl rfl 36 rfl (by decide) ?_
          refine AO.skipG 26 false 33 rfl rfl rfl 37 rfl (by decide) ?_
          refine AO.skipG 26 false 33 rfl rfl rfl 38 rfl (by decide) ?_
          refine AO.calm rfl 39 rfl (by decide) (eBool false) (Calm.pickF rfl rfl rfl) ?_
          refine AO.calm rfl 0 rfl (by decide) (eBool false) (Calm.assign rfl rfl) ?_
          cases hq3
          refine AO.nilE ⟨rfl, rfl⟩ ?_ ?_
          · exact ⟨rfl, trivial⟩
          · exact (Sub.refl _)
      · have hq3 := (if_neg hc5).symm.trans hq3
        refine AO.skipG 6 false 13 rfl rfl (congrArg (fun b => some (AV.fl (Value.bool b))) (decide_eq_false hc5)) 14 rfl (by decide) ?_
        refine AO.skipG 6 false 13 rfl rfl (congrArg (fun b => some (AV.fl (Value.bool b))) (decide_eq_false hc5)) 15 rfl (by decide) ?_
        refine AO.skipG 6 false 13 rfl rfl (congrArg (fun b => some (AV.fl (Value.bool b))) (decide_eq_false hc5)) 16 rfl (by decide) ?_
        refine AO.skipG 6 false 13 rfl rfl (congrArg (fun b => some (AV.fl (Value.bool b))) (decide_eq_false hc5)) 17 rfl (by decide) ?_
        refine AO.skipG 6 false 13 rfl rfl (congrArg (fun b => some (AV.fl (Value.bool b))) (decide_eq_false hc5)) 18 rfl (by decide) ?_
        refine AO.calm rfl 19 rfl (by decide) (eBool false) (Calm.pickF rfl (congrArg (fun b => some (AV.fl (Value.bool b))) (decide_eq_false hc5)) rfl) ?_
        refine AO.calm rfl 20 rfl (by decide) (eBool false) (Calm.move rfl rfl) ?_
        refine AO.skipG 13 false 20 rfl rfl rfl 21 rfl (by decide) ?_
        refine AO.skipG 13 false 20 rfl rfl rfl 22 rfl (by decide) ?_
        refine AO.skipG 13 false 20 rfl rfl rfl 23 rfl (by decide) ?_
        refine AO.skipG 13 false 20 rfl rfl rfl 24 rfl (by decide) ?_
        refine AO.calm rfl 25 rfl (by decide) (eBool false) (Calm.pickF rfl rfl rfl) ?_
        refine AO.calm rfl 26 rfl (by decide) (eBool false) (Calm.move rfl rfl) ?_
        refine AO.skipG 19 false 26 rfl rfl rfl 27 rfl (by decide) ?_
        refine AO.skipG 19 false 26 rfl rfl rfl 28 rfl (by decide) ?_
        refine AO.skipG 19 false 26 rfl rfl rfl 29 rfl (by decide) ?_
        refine AO.skipG 19 false 26 rfl rfl rfl 30 rfl (by decide) ?_
        refine AO.skipG 19 false 26 rfl rfl rfl 31 rfl (by decide) ?_
        refine AO.calm rfl 32 rfl (by decide) (eBool false) (Calm.pickF rfl rfl rfl) ?_
        refine AO.calm rfl 33 rfl (by decide) (eBool false) (Calm.move rfl rfl) ?_
        refine AO.skipG 26 false 33 rfl rfl rfl 34 rfl (by decide) ?_
        refine AO.skipG 26 false 33 rfl rfl rfl 35 rfl (by decide) ?_
        refine AO.skipG 26 false 33 rfl rfl rfl 36 rfl (by decide) ?_
        refine AO.skipG 26 false 33 rfl rfl rfl 37 rfl (by decide) ?_
        refine AO.skipG 26 false 33 rfl rfl rfl 38 rfl (by decide) ?_
        refine AO.calm rfl 39 rfl (by decide) (eBool false) (Calm.pickF rfl rfl rfl) ?_
        refine AO.calm rfl 0 rfl (by decide) (eBool false) (Calm.assign rfl rfl) ?_
        cases hq3
        refine AO.nilE ⟨rfl, rfl⟩ ?_ ?_
        · exact ⟨rfl, trivial⟩
        · exact (Sub.refl _)
    · have hq3 := (if_neg hc4).symm.trans hq3
      refine AO.skipG 1 false 8 rfl rfl (congrArg (fun b => some (AV.fl (Value.bool b))) (eq_false_of_ne_true hc4)) 9 rfl (by decide) ?_
      refine AO.skipG 1 false 8 rfl rfl (congrArg (fun b => some (AV.fl (Value.bool b))) (eq_false_of_ne_true hc4)) 10 rfl (by decide) ?_
      refine AO.skipG 1 false 8 rfl rfl (congrArg (fun b => some (AV.fl (Value.bool b))) (eq_false_of_ne_true hc4)) 11 rfl (by decide) ?_
      refine AO.calm rfl 12 rfl (by decide) (eBool false) (Calm.pickF rfl (congrArg (fun b => some (AV.fl (Value.bool b))) (eq_false_of_ne_true hc4)) rfl) ?_
      refine AO.calm rfl 13 rfl (by decide) (eBool false) (Calm.move rfl rfl) ?_
      refine AO.skipG 6 false 13 rfl rfl rfl 14 rfl (by decide) ?_
      refine AO.skipG 6 false 13 rfl rfl rfl 15 rfl (by decide) ?_
      refine AO.skipG 6 false 13 rfl rfl rfl 16 rfl (by decide) ?_
      refine AO.skipG 6 false 13 rfl rfl rfl 17 rfl (by decide) ?_
      refine AO.skipG 6 false 13 rfl rfl rfl 18 rfl (by decide) ?_
      refine AO.calm rfl 19 rfl (by decide) (eBool false) (Calm.pickF rfl rfl rfl) ?_
      refine AO.calm rfl 20 rfl (by decide) (eBool false) (Calm.move rfl rfl) ?_
      refine AO.skipG 13 false 20 rfl rfl rfl 21 rfl (by decide) ?_
      refine AO.skipG 13 false 20 rfl rfl rfl 22 rfl (by decide) ?_
      refine AO.skipG 13 false 20 rfl rfl rfl 23 rfl (by decide) ?_
      refine AO.skipG 13 false 20 rfl rfl rfl 24 rfl (by decide) ?_
      refine AO.calm rfl 25 rfl (by decide) (eBool false) (Calm.pickF rfl rfl rfl) ?_
      refine AO.calm rfl 26 rfl (by decide) (eBool false) (Calm.move rfl rfl) ?_
      refine AO.skipG 19 false 26 rfl rfl rfl 27 rfl (by decide) ?_
      refine AO.skipG 19 false 26 rfl rfl rfl 28 rfl (by decide) ?_
      refine AO.skipG 19 false 26 rfl rfl rfl 29 rfl (by decide) ?_
      refine AO.skipG 19 false 26 rfl rfl rfl 30 rfl (by decide) ?_
      refine AO.skipG 19 false 26 rfl rfl rfl 31 rfl (by decide) ?_
      refine AO.calm rfl 32 rfl (by decide) (eBool false) (Calm.pickF rfl rfl rfl) ?_
      refine AO.calm rfl 33 rfl (by decide) (eBool false) (Calm.move rfl rfl) ?_
      refine AO.skipG 26 false 33 rfl rfl rfl 34 rfl (by decide) ?_
      refine AO.skipG 26 false 33 rfl rfl rfl 35 rfl (by decide) ?_
      refine AO.skipG 26 false 33 rfl rfl rfl 36 rfl (by decide) ?_
      refine AO.skipG 26 false 33 rfl rfl rfl 37 rfl (by decide) ?_
      refine AO.skipG 26 false 33 rfl rfl rfl 38 rfl (by decide) ?_
      refine AO.calm rfl 39 rfl (by decide) (eBool false) (Calm.pickF rfl rfl rfl) ?_
      refine AO.calm rfl 0 rfl (by decide) (eBool false) (Calm.assign rfl rfl) ?_
      cases hq3
      refine AO.nilE ⟨rfl, rfl⟩ ?_ ?_
      · exact ⟨rfl, trivial⟩
      · exact (Sub.refl _)
  · refine AW.ret (ρ' := [(0, (eBool b2))]) (H' := []) ⟨rfl, trivial⟩ (Sub.refl _) ?_
    have hr := Option.some.inj h
    subst hr
    exact ⟨[(eBool b2)], ⟨rfl, rfl, trivial⟩, rfl⟩
end Go.Avl.T2
