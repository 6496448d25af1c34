/- Parts: TDf6. -/
import Derived.Test.YthfongdjcpmpfaaDoorAF1
import Derived.Test.YthfongdjcpmpfaaDoorAF2
/- bosket/bosketlaw02.BytesetTells; printed by avmain.py. -/
namespace Go.Avl.TD
open Go Go.RowKit Go.Proofs Go.Avl
set_option linter.unusedVariables false
set_option maxRecDepth 100000
set_option maxHeartbeats 4000000
attribute [local irreducible] AW AO AQ Spec SpecH Calm

def bosketlaw02_BytesetTells_c0 (k : Nat) (p0 : (Vector Int 4)) (p1 : (Vector Int 4)) (p2 : Int) (t8 : (List Int)) (x9 : Int) : Option Bool :=
  Option.bind (α := Bool) ((byteset_List k p0).bind fun t12 =>
  if (strOfNums t12) ≠ (strOfNums t8) then some (true)
  else (byteset_Len k p0).bind fun t14 =>
  if t14 ≠ (t8.length : Int) then some (true)
  else (byteset_Empty k p0).bind fun t16 =>
  if (t16 != (decide ((t8.length : Int) = (0 : Int)))) = true then some (true)
  else (byteset_First k p0).bind fun t18 =>
  if t18 ≠ x9 then some (true)
  else (byteset_Has k p0 p2).bind fun t20 =>
  (bosketref02_Has k p0 (w64 p2)).bind fun t21 =>
  some ((t20 != t21))) fun b10 =>
  if b10 = true then some (false)
  else Option.bind (α := Bool) ((byteset_Or k p0 p1).bind fun t25 =>
  (bosketref02_Put k (0 : Int) p0 p1).bind fun t26 =>
  if t25 = t26 then (byteset_And k p0 p1).bind fun t28 =>
  (bosketref02_Put k (1 : Int) p0 p1).bind fun t29 =>
  if t28 = t29 then (byteset_Less k p0 p1).bind fun t31 =>
  (bosketref02_Put k (2 : Int) p0 p1).bind fun t32 =>
  if t31 = t32 then (byteset_Not k p0).bind fun t34 =>
  (bosketref02_Put k (3 : Int) p0 p1).bind fun t35 =>
  if t34 = t35 then (byteset_Full k).bind fun t37 =>
  (bosketref02_Put k (3 : Int) (Vector.replicate 4 (0 : Int)) p1).bind fun t38 =>
  some (decide (t37 = t38))
  else some (false)
  else some (false)
  else some (false)
  else some (false)) fun b23 =>
  some (b23)
def bosketlaw02_BytesetTells (k : Nat) (p0 : (Vector Int 4)) (p1 : (Vector Int 4)) (p2 : Int) : Option Bool :=
  (bosketlaw02_awake k).bind fun t6 =>
  if (!t6) = true then some (false)
  else (bosketref02_List k p0).bind fun t8 =>
  if (0 : Int) < (t8.length : Int) then if 0 ≤ (0 : Int) ∧ (0 : Int) < (t8.length : Int) then bosketlaw02_BytesetTells_c0 k p0 p1 p2 t8 (w64 (lget t8 (0 : Int)))
  else none
  else bosketlaw02_BytesetTells_c0 k p0 p1 p2 t8 (-1 : Int)
theorem bosketlaw02_BytesetTells_spec {k : Nat} {p0 : (Vector Int 4)} {p1 : (Vector Int 4)} {p2 : Int} {r : Bool} (h : bosketlaw02_BytesetTells k p0 p1 p2 = some r) : Spec Tryd.prog 6 [(.ar 1 (p0.toList.map eU64)), (.ar 1 (p1.toList.map eU64)), (eU8 p2)] (eBool r) := by
  rw [bosketlaw02_BytesetTells.eq_1] at h
  refine Spec.intro (res := [.tmp 6]) Tryd.func6 rfl rfl rfl (Nat.le_of_ble_eq_true rfl) ?_
  refine AW.seq ?_
  refine AW.reg ?_
  refine AO.box rfl 3 rfl (by decide) rfl rfl rfl fun n4 => ?_
  refine AO.box rfl 4 rfl (by decide) rfl rfl rfl fun n5 => ?_
  refine AO.calm rfl 6 rfl (by decide) (eBool false) (Calm.assign rfl rfl) ?_
  refine AO.nil (ρ' := [(2, (eU8 p2)), (3, (.ptr n4 0)), (4, (.ptr n5 0))]) (H' := [(n4, .mem (.ar 1 (p0.toList.map eU64))), (n5, .mem (.ar 1 (p1.toList.map eU64)))]) ⟨rfl, rfl, rfl, trivial⟩ (Sub.cons 1 rfl (Sub.cons 0 rfl (Sub.nil _))) ?_
  refine AW.seq ?_
  refine AW.seq ?_
  refine AW.reg ?_
  obtain ⟨t6, et6, h⟩ := of_bind h
  refine AO.callS [] (eBool t6) 9 rfl (by decide) ok7 rfl rfl rfl trivial (bosketlaw02_awake_spec et6) ?_
  refine AO.calm rfl 10 rfl (by decide) (eBool (!t6)) (Calm.not rfl rfl) ?_
  refine AO.nil (ρ' := [(2, (eU8 p2)), (3, (.ptr n4 0)), (4, (.ptr n5 0)), (10, (eBool (!t6)))]) (H' := [(n4, .mem (.ar 1 (p0.toList.map eU64))), (n5, .mem (.ar 1 (p1.toList.map eU64)))]) ⟨rfl, rfl, rfl, rfl, trivial⟩ (Sub.refl _) ?_
  by_cases hc7 : (!t6) = true
  · have h := (if_pos hc7).symm.trans h
    refine AW.condT' (!t6) rfl hc7 ?_
    refine AW.seq ?_
    refine AW.reg ?_
    refine AO.calm rfl 6 rfl (by decide) (eBool false) (Calm.assign rfl rfl) ?_
    refine AO.nil (ρ' := [(6, (eBool false))]) (H' := []) ⟨rfl, trivial⟩ (Sub.nil _) ?_
    refine AW.ret (ρ' := [(6, (eBool false))]) (H' := []) ⟨rfl, trivial⟩ (Sub.refl _) ?_
    have hr := Option.some.inj h
    subst hr
    exact ⟨[(eBool false)], ⟨rfl, rfl, trivial⟩, rfl⟩
  · have h := (if_neg hc7).symm.trans h
    refine AW.condF' (!t6) rfl hc7 ?_
    refine AW.skip (ρ' := [(2, (eU8 p2)), (3, (.ptr n4 0)), (4, (.ptr n5 0))]) (H' := [(n4, .mem (.ar 1 (p0.toList.map eU64))), (n5, .mem (.ar 1 (p1.toList.map eU64)))]) ⟨rfl, rfl, rfl, trivial⟩ (Sub.refl _) ?_
    refine AW.seq ?_
    refine AW.reg ?_
    refine AO.calm rfl 11 rfl (by decide) (.ar 1 (p0.toList.map eU64)) (Calm.load 0 rfl rfl rfl (At.cast At.here rfl) ag27 (by rw [sz27]; simp [AV.size])) ?_
    obtain ⟨t8, et8, h⟩ := of_bind h
    refine AO.callS [(.ar 1 (p0.toList.map eU64))] (.fz 1 (t8.map eU8)) 12 rfl (by decide) ok16 rfl rfl rfl ⟨rfl, rfl, trivial⟩ (bosketref02_List_spec et8) ?_
    refine AO.calm rfl 7 rfl (by decide) (.fz 1 (t8.map eU8)) (Calm.assign rfl rfl) ?_
    refine AO.nil (ρ' := [(2, (eU8 p2)), (3, (.ptr n4 0)), (4, (.ptr n5 0)), (7, (.fz 1 (t8.map eU8)))]) (H' := [(n4, .mem (.ar 1 (p0.toList.map eU64))), (n5, .mem (.ar 1 (p1.toList.map eU64)))]) ⟨rfl, rfl, rfl, rfl, trivial⟩ (Sub.refl _) ?_
    refine AW.seq ?_
    refine AW.reg ?_
    refine AO.calm rfl 8 rfl (by decide) (eI64 (-1 : Int)) (Calm.assign rfl rfl) ?_
    refine AO.nil (ρ' := [(2, (eU8 p2)), (3, (.ptr n4 0)), (4, (.ptr n5 0)), (7, (.fz 1 (t8.map eU8))), (8, (eI64 (-1 : Int)))]) (H' := [(n4, .mem (.ar 1 (p0.toList.map eU64))), (n5, .mem (.ar 1 (p1.toList.map eU64)))]) ⟨rfl, rfl, rfl, rfl, rfl, trivial⟩ (Sub.refl _) ?_
    refine AW.seq_mid (fun ρ H => ∃ (x9 : Int), ρ = [(2, (eU8 p2)), (3, (.ptr n4 0)), (4, (.ptr n5 0)), (7, (.fz 1 (t8.map eU8))), (8, (eI64 x9))] ∧ H = [(n4, .mem (.ar 1 (p0.toList.map eU64))), (n5, .mem (.ar 1 (p1.toList.map eU64)))] ∧ bosketlaw02_BytesetTells_c0 k p0 p1 p2 t8 x9 = some r) ?_ ?_
    · refine AW.seq ?_
      refine AW.reg ?_
      refine AO.calm rfl 13 rfl (by decide) (.fz 1 (t8.map eU8)) (Calm.move rfl rfl) ?_
      refine AO.calm rfl 14 rfl (by decide) (eI64 (t8.length : Int)) (Calm.lenL rfl rfl Tryd.underlying22) ?_
      refine AO.calm rfl 15 rfl (by decide) (eBool (decide ((0 : Int) < (t8.length : Int)))) (Calm.int rfl rfl rfl rfl) ?_
      refine AO.nil (ρ' := [(2, (eU8 p2)), (3, (.ptr n4 0)), (4, (.ptr n5 0)), (7, (.fz 1 (t8.map eU8))), (8, (eI64 (-1 : Int))), (15, (eBool (decide ((0 : Int) < (t8.length : Int)))))]) (H' := [(n4, .mem (.ar 1 (p0.toList.map eU64))), (n5, .mem (.ar 1 (p1.toList.map eU64)))]) ⟨rfl, rfl, rfl, rfl, rfl, rfl, trivial⟩ (Sub.refl _) ?_
      by_cases hc39 : (0 : Int) < (t8.length : Int)
      · have h := (if_pos hc39).symm.trans h
        refine AW.condP ((0 : Int) < (t8.length : Int)) rfl hc39 ?_
        refine AW.reg ?_
        refine AO.calm rfl 16 rfl (by decide) (.fz 1 (t8.map eU8)) (Calm.move rfl rfl) ?_
        obtain ⟨hg40, h⟩ := of_guard h
        refine AO.calm rfl 17 rfl (by decide) (.rp (eU8 (lget t8 (0 : Int)))) (Calm.idxL (f := eU8) rfl rfl rfl hg40 Tryd.underlying22 sz5) ?_
        refine AO.calm rfl 18 rfl (by decide) (eU8 (lget t8 (0 : Int))) (Calm.loadRp rfl rfl ag5 sz5) ?_
        refine AO.calm rfl 19 rfl (by decide) (eI64 (w64 (lget t8 (0 : Int)))) (Calm.conv rfl rfl Tryd.underlying5 Tryd.underlying3) ?_
        refine AO.calm rfl 8 rfl (by decide) (eI64 (w64 (lget t8 (0 : Int)))) (Calm.assign rfl rfl) ?_
        refine AO.nil (ρ' := [(2, (eU8 p2)), (3, (.ptr n4 0)), (4, (.ptr n5 0)), (7, (.fz 1 (t8.map eU8))), (8, (eI64 (w64 (lget t8 (0 : Int)))))]) (H' := [(n4, .mem (.ar 1 (p0.toList.map eU64))), (n5, .mem (.ar 1 (p1.toList.map eU64)))]) ⟨rfl, rfl, rfl, rfl, rfl, trivial⟩ (Sub.refl _) ?_
        exact ⟨(w64 (lget t8 (0 : Int))), rfl, rfl, h⟩
      · have h := (if_neg hc39).symm.trans h
        refine AW.condN ((0 : Int) < (t8.length : Int)) rfl hc39 ?_
        refine AW.skip (ρ' := [(2, (eU8 p2)), (3, (.ptr n4 0)), (4, (.ptr n5 0)), (7, (.fz 1 (t8.map eU8))), (8, (eI64 (-1 : Int)))]) (H' := [(n4, .mem (.ar 1 (p0.toList.map eU64))), (n5, .mem (.ar 1 (p1.toList.map eU64)))]) ⟨rfl, rfl, rfl, rfl, rfl, trivial⟩ (Sub.refl _) ?_
        exact ⟨(-1 : Int), rfl, rfl, h⟩
    · rintro _ _ ⟨x9, rfl, rfl, h⟩
      rw [bosketlaw02_BytesetTells_c0.eq_1] at h
      refine AW.seq ?_
      refine AW.seq ?_
      obtain ⟨b10, hq11, h⟩ := of_bind h
      refine AW.toM [(3, (.ptr n4 0)), (4, (.ptr n5 0)), (56, (eBool b10))] [(n4, .mem (.ar 1 (p0.toList.map eU64))), (n5, .mem (.ar 1 (p1.toList.map eU64)))] ?_ ?_
      · obtain ⟨t12, et12, hq11⟩ := of_bind hq11
        by_cases hc13 : (strOfNums t12) ≠ (strOfNums t8)
        · have hq11 := (if_pos hc13).symm.trans hq11
          refine AW.regAny (by rfl) (by decide +kernel) [(.ar 1 (p0.toList.map eU64)), (.fz 1 (t12.map eU8)), (eStr (strOfNums t12)), (.fz 1 (t8.map eU8)), (eStr (strOfNums t8)), (eBool (decide ((strOfNums t12) ≠ (strOfNums t8)))), (eBool (decide ((strOfNums t12) ≠ (strOfNums t8)))), (.fl undef), (.fl undef), (.fl undef), (.fl undef), (.fl undef), (eBool true), (eBool true), (.fl undef), (.fl undef), (.fl undef), (.fl undef), (.fl undef), (.fl undef), (eBool true), (eBool true), (.fl undef), (.fl undef), (.fl undef), (.fl undef), (eBool true), (eBool true), (.fl undef), (.fl undef), (.fl undef), (.fl undef), (.fl undef), (.fl undef), (.fl undef), (.fl undef), (eBool true)] [(2, (eU8 p2)), (3, (.ptr n4 0)), (4, (.ptr n5 0)), (7, (.fz 1 (t8.map eU8))), (8, (eI64 x9))] ⟨rfl, rfl, rfl, rfl, rfl, trivial⟩ rfl ?_ [(3, (.ptr n4 0)), (4, (.ptr n5 0)), (56, (eBool true))] [(n4, .mem (.ar 1 (p0.toList.map eU64))), (n5, .mem (.ar 1 (p1.toList.map eU64)))] ⟨rfl, rfl, rfl, trivial⟩ (Sub.refl _) ?_
          · refine ⟨?_, ?_, ?_, ?_, ?_, ?_, ?_, ?_, ?_, ?_, ?_, ?_, ?_, ?_, ?_, ?_, ?_, ?_, ?_, ?_, ?_, ?_, ?_, ?_, ?_, ?_, ?_, ?_, ?_, ?_, ?_, ?_, ?_, ?_, ?_, ?_, ?_, trivial⟩
            · refine AO.weak (ρ' := [(3, (.ptr n4 0))]) (H' := [(n4, .mem (.ar 1 (p0.toList.map eU64))), (n5, .mem (.ar 1 (p1.toList.map eU64)))]) ⟨rfl, trivial⟩ (Sub.refl _) ?_
              refine AO.calm rfl 20 rfl (by decide) (.ar 1 (p0.toList.map eU64)) (Calm.load 0 rfl rfl rfl (At.cast At.here rfl) ag27 (by rw [sz27]; simp [AV.size])) ?_
              exact AO.nilE (ρ' := [(20, (.ar 1 (p0.toList.map eU64)))]) (H' := [(n4, .mem (.ar 1 (p0.toList.map eU64))), (n5, .mem (.ar 1 (p1.toList.map eU64)))]) ⟨⟨_, rfl, rfl⟩, Sub.refl _⟩ ⟨rfl, trivial⟩ (Sub.refl _)
            · refine AO.weak (ρ' := [(20, (.ar 1 (p0.toList.map eU64)))]) (H' := [(n4, .mem (.ar 1 (p0.toList.map eU64))), (n5, .mem (.ar 1 (p1.toList.map eU64)))]) ⟨rfl, trivial⟩ (Sub.refl _) ?_
              refine AO.callS [(.ar 1 (p0.toList.map eU64))] (.fz 1 (t12.map eU8)) 21 rfl (by decide) ok17 rfl rfl rfl ⟨rfl, rfl, trivial⟩ (byteset_List_spec et12) ?_
              exact AO.nilE (ρ' := [(21, (.fz 1 (t12.map eU8)))]) (H' := [(n4, .mem (.ar 1 (p0.toList.map eU64))), (n5, .mem (.ar 1 (p1.toList.map eU64)))]) ⟨⟨_, rfl, rfl⟩, Sub.refl _⟩ ⟨rfl, trivial⟩ (Sub.refl _)
            · refine AO.weak (ρ' := [(21, (.fz 1 (t12.map eU8)))]) (H' := [(n4, .mem (.ar 1 (p0.toList.map eU64))), (n5, .mem (.ar 1 (p1.toList.map eU64)))]) ⟨rfl, trivial⟩ (Sub.refl _) ?_
              refine AO.calm rfl 22 rfl (by decide) (eStr (strOfNums t12)) (Calm.strL rfl rfl Tryd.underlying22 Tryd.underlying9 Tryd.underlying5) ?_
              exact AO.nilE (ρ' := [(22, (eStr (strOfNums t12)))]) (H' := [(n4, .mem (.ar 1 (p0.toList.map eU64))), (n5, .mem (.ar 1 (p1.toList.map eU64)))]) ⟨⟨_, rfl, rfl⟩, Sub.refl _⟩ ⟨rfl, trivial⟩ (Sub.refl _)
            · refine AO.weak (ρ' := [(7, (.fz 1 (t8.map eU8)))]) (H' := [(n4, .mem (.ar 1 (p0.toList.map eU64))), (n5, .mem (.ar 1 (p1.toList.map eU64)))]) ⟨rfl, trivial⟩ (Sub.refl _) ?_
              refine AO.calm rfl 23 rfl (by decide) (.fz 1 (t8.map eU8)) (Calm.move rfl rfl) ?_
              exact AO.nilE (ρ' := [(23, (.fz 1 (t8.map eU8)))]) (H' := [(n4, .mem (.ar 1 (p0.toList.map eU64))), (n5, .mem (.ar 1 (p1.toList.map eU64)))]) ⟨⟨_, rfl, rfl⟩, Sub.refl _⟩ ⟨rfl, trivial⟩ (Sub.refl _)
            · refine AO.weak (ρ' := [(23, (.fz 1 (t8.map eU8)))]) (H' := [(n4, .mem (.ar 1 (p0.toList.map eU64))), (n5, .mem (.ar 1 (p1.toList.map eU64)))]) ⟨rfl, trivial⟩ (Sub.refl _) ?_
              refine AO.calm rfl 24 rfl (by decide) (eStr (strOfNums t8)) (Calm.strL rfl rfl Tryd.underlying22 Tryd.underlying9 Tryd.underlying5) ?_
              exact AO.nilE (ρ' := [(24, (eStr (strOfNums t8)))]) (H' := [(n4, .mem (.ar 1 (p0.toList.map eU64))), (n5, .mem (.ar 1 (p1.toList.map eU64)))]) ⟨⟨_, rfl, rfl⟩, Sub.refl _⟩ ⟨rfl, trivial⟩ (Sub.refl _)
            · refine AO.weak (ρ' := [(22, (eStr (strOfNums t12))), (24, (eStr (strOfNums t8)))]) (H' := [(n4, .mem (.ar 1 (p0.toList.map eU64))), (n5, .mem (.ar 1 (p1.toList.map eU64)))]) ⟨rfl, rfl, trivial⟩ (Sub.refl _) ?_
              refine AO.calm rfl 25 rfl (by decide) (eBool (decide ((strOfNums t12) ≠ (strOfNums t8)))) (Calm.str rfl rfl rfl rfl) ?_
              exact AO.nilE (ρ' := [(25, (eBool (decide ((strOfNums t12) ≠ (strOfNums t8)))))]) (H' := [(n4, .mem (.ar 1 (p0.toList.map eU64))), (n5, .mem (.ar 1 (p1.toList.map eU64)))]) ⟨⟨_, rfl, rfl⟩, Sub.refl _⟩ ⟨rfl, trivial⟩ (Sub.refl _)
            · refine AO.weak (ρ' := [(25, (eBool (decide ((strOfNums t12) ≠ (strOfNums t8)))))]) (H' := [(n4, .mem (.ar 1 (p0.toList.map eU64))), (n5, .mem (.ar 1 (p1.toList.map eU64)))]) ⟨rfl, trivial⟩ (Sub.refl _) ?_
              refine AO.calm rfl 26 rfl (by decide) (eBool (decide ((strOfNums t12) ≠ (strOfNums t8)))) (Calm.move rfl rfl) ?_
              exact AO.nilE (ρ' := [(26, (eBool (decide ((strOfNums t12) ≠ (strOfNums t8)))))]) (H' := [(n4, .mem (.ar 1 (p0.toList.map eU64))), (n5, .mem (.ar 1 (p1.toList.map eU64)))]) ⟨⟨_, rfl, rfl⟩, Sub.refl _⟩ ⟨rfl, trivial⟩ (Sub.refl _)
            · refine AO.weak (ρ' := [(26, (eBool (decide ((strOfNums t12) ≠ (strOfNums t8)))))]) (H' := [(n4, .mem (.ar 1 (p0.toList.map eU64))), (n5, .mem (.ar 1 (p1.toList.map eU64)))]) ⟨rfl, trivial⟩ (Sub.refl _) ?_
              refine AO.skipG 6 true 26 rfl rfl (congrArg (fun b => some (AV.fl (Value.bool b))) (decide_eq_true hc13)) 27 rfl (by decide) ?_
              exact AO.nilE (ρ' := [(27, (.fl undef))]) (H' := [(n4, .mem (.ar 1 (p0.toList.map eU64))), (n5, .mem (.ar 1 (p1.toList.map eU64)))]) ⟨⟨_, rfl, rfl⟩, Sub.refl _⟩ ⟨rfl, trivial⟩ (Sub.refl _)
            · refine AO.weak (ρ' := [(26, (eBool (decide ((strOfNums t12) ≠ (strOfNums t8)))))]) (H' := [(n4, .mem (.ar 1 (p0.toList.map eU64))), (n5, .mem (.ar 1 (p1.toList.map eU64)))]) ⟨rfl, trivial⟩ (Sub.refl _) ?_
              refine AO.skipG 6 true 26 rfl rfl (congrArg (fun b => some (AV.fl (Value.bool b))) (decide_eq_true hc13)) 28 rfl (by decide) ?_
              exact AO.nilE (ρ' := [(28, (.fl undef))]) (H' := [(n4, .mem (.ar 1 (p0.toList.map eU64))), (n5, .mem (.ar 1 (p1.toList.map eU64)))]) ⟨⟨_, rfl, rfl⟩, Sub.refl _⟩ ⟨rfl, trivial⟩ (Sub.refl _)
            · refine AO.weak (ρ' := [(26, (eBool (decide ((strOfNums t12) ≠ (strOfNums t8)))))]) (H' := [(n4, .mem (.ar 1 (p0.toList.map eU64))), (n5, .mem (.ar 1 (p1.toList.map eU64)))]) ⟨rfl, trivial⟩ (Sub.refl _) ?_
              refine AO.skipG 6 true 26 rfl rfl (congrArg (fun b => some (AV.fl (Value.bool b))) (decide_eq_true hc13)) 29 rfl (by decide) ?_
              exact AO.nilE (ρ' := [(29, (.fl undef))]) (H' := [(n4, .mem (.ar 1 (p0.toList.map eU64))), (n5, .mem (.ar 1 (p1.toList.map eU64)))]) ⟨⟨_, rfl, rfl⟩, Sub.refl _⟩ ⟨rfl, trivial⟩ (Sub.refl _)
            · refine AO.weak (ρ' := [(26, (eBool (decide ((strOfNums t12) ≠ (strOfNums t8)))))]) (H' := [(n4, .mem (.ar 1 (p0.toList.map eU64))), (n5, .mem (.ar 1 (p1.toList.map eU64)))]) ⟨rfl, trivial⟩ (Sub.refl _) ?_
              refine AO.skipG 6 true 26 rfl rfl (congrArg (fun b => some (AV.fl (Value.bool b))) (decide_eq_true hc13)) 30 rfl (by decide) ?_
              exact AO.nilE (ρ' := [(30, (.fl undef))]) (H' := [(n4, .mem (.ar 1 (p0.toList.map eU64))), (n5, .mem (.ar 1 (p1.toList.map eU64)))]) ⟨⟨_, rfl, rfl⟩, Sub.refl _⟩ ⟨rfl, trivial⟩ (Sub.refl _)
            · refine AO.weak (ρ' := [(26, (eBool (decide ((strOfNums t12) ≠ (strOfNums t8)))))]) (H' := [(n4, .mem (.ar 1 (p0.toList.map eU64))), (n5, .mem (.ar 1 (p1.toList.map eU64)))]) ⟨rfl, trivial⟩ (Sub.refl _) ?_
              refine AO.skipG 6 true 26 rfl rfl (congrArg (fun b => some (AV.fl (Value.bool b))) (decide_eq_true hc13)) 31 rfl (by decide) ?_
              exact AO.nilE (ρ' := [(31, (.fl undef))]) (H' := [(n4, .mem (.ar 1 (p0.toList.map eU64))), (n5, .mem (.ar 1 (p1.toList.map eU64)))]) ⟨⟨_, rfl, rfl⟩, Sub.refl _⟩ ⟨rfl, trivial⟩ (Sub.refl _)
            · refine AO.weak (ρ' := [(26, (eBool (decide ((strOfNums t12) ≠ (strOfNums t8))))), (31, (.fl undef))]) (H' := [(n4, .mem (.ar 1 (p0.toList.map eU64))), (n5, .mem (.ar 1 (p1.toList.map eU64)))]) ⟨rfl, rfl, trivial⟩ (Sub.refl _) ?_
              refine AO.calm rfl 32 rfl (by decide) (eBool true) (Calm.pickT rfl (congrArg (fun b => some (AV.fl (Value.bool b))) (decide_eq_true hc13)) rfl) ?_
              exact AO.nilE (ρ' := [(32, (eBool true))]) (H' := [(n4, .mem (.ar 1 (p0.toList.map eU64))), (n5, .mem (.ar 1 (p1.toList.map eU64)))]) ⟨⟨_, rfl, rfl⟩, Sub.refl _⟩ ⟨rfl, trivial⟩ (Sub.refl _)
            · refine AO.weak (ρ' := [(32, (eBool true))]) (H' := [(n4, .mem (.ar 1 (p0.toList.map eU64))), (n5, .mem (.ar 1 (p1.toList.map eU64)))]) ⟨rfl, trivial⟩ (Sub.refl _) ?_
              refine AO.calm rfl 33 rfl (by decide) (eBool true) (Calm.move rfl rfl) ?_
              exact AO.nilE (ρ' := [(33, (eBool true))]) (H' := [(n4, .mem (.ar 1 (p0.toList.map eU64))), (n5, .mem (.ar 1 (p1.toList.map eU64)))]) ⟨⟨_, rfl, rfl⟩, Sub.refl _⟩ ⟨rfl, trivial⟩ (Sub.refl _)
            · refine AO.weak (ρ' := [(33, (eBool true))]) (H' := [(n4, .mem (.ar 1 (p0.toList.map eU64))), (n5, .mem (.ar 1 (p1.toList.map eU64)))]) ⟨rfl, trivial⟩ (Sub.refl _) ?_
              refine AO.skipG 13 true 33 rfl rfl rfl 34 rfl (by decide) ?_
              exact AO.nilE (ρ' := [(34, (.fl undef))]) (H' := [(n4, .mem (.ar 1 (p0.toList.map eU64))), (n5, .mem (.ar 1 (p1.toList.map eU64)))]) ⟨⟨_, rfl, rfl⟩, Sub.refl _⟩ ⟨rfl, trivial⟩ (Sub.refl _)
            · refine AO.weak (ρ' := [(33, (eBool true))]) (H' := [(n4, .mem (.ar 1 (p0.toList.map eU64))), (n5, .mem (.ar 1 (p1.toList.map eU64)))]) ⟨rfl, trivial⟩ (Sub.refl _) ?_
              refine AO.skipG 13 true 33 rfl rfl rfl 35 rfl (by decide) ?_
              exact AO.nilE (ρ' := [(35, (.fl undef))]) (H' := [(n4, .mem (.ar 1 (p0.toList.map eU64))), (n5, .mem (.ar 1 (p1.toList.map eU64)))]) ⟨⟨_, rfl, rfl⟩, Sub.refl _⟩ ⟨rfl, trivial⟩ (Sub.refl _)
            · refine AO.weak (ρ' := [(33, (eBool true))]) (H' := [(n4, .mem (.ar 1 (p0.toList.map eU64))), (n5, .mem (.ar 1 (p1.toList.map eU64)))]) ⟨rfl, trivial⟩ (Sub.refl _) ?_
              refine AO.skipG 13 true 33 rfl rfl rfl 36 rfl (by decide) ?_
              exact AO.nilE (ρ' := [(36, (.fl undef))]) (H' := [(n4, .mem (.ar 1 (p0.toList.map eU64))), (n5, .mem (.ar 1 (p1.toList.map eU64)))]) ⟨⟨_, rfl, rfl⟩, Sub.refl _⟩ ⟨rfl, trivial⟩ (Sub.refl _)
            · refine AO.weak (ρ' := [(33, (eBool true))]) (H' := [(n4, .mem (.ar 1 (p0.toList.map eU64))), (n5, .mem (.ar 1 (p1.toList.map eU64)))]) ⟨rfl, trivial⟩ (Sub.refl _) ?_
              refine AO.skipG 13 true 33 rfl rfl rfl 37 rfl (by decide) ?_
              exact AO.nilE (ρ' := [(37, (.fl undef))]) (H' := [(n4, .mem (.ar 1 (p0.toList.map eU64))), (n5, .mem (.ar 1 (p1.toList.map eU64)))]) ⟨⟨_, rfl, rfl⟩, Sub.refl _⟩ ⟨rfl, trivial⟩ (Sub.refl _)
            · refine AO.weak (ρ' := [(33, (eBool true))]) (H' := [(n4, .mem (.ar 1 (p0.toList.map eU64))), (n5, .mem (.ar 1 (p1.toList.map eU64)))]) ⟨rfl, trivial⟩ (Sub.refl _) ?_
              refine AO.skipG 13 true 33 rfl rfl rfl 38 rfl (by decide) ?_
              exact AO.nilE (ρ' := [(38, (.fl undef))]) (H' := [(n4, .mem (.ar 1 (p0.toList.map eU64))), (n5, .mem (.ar 1 (p1.toList.map eU64)))]) ⟨⟨_, rfl, rfl⟩, Sub.refl _⟩ ⟨rfl, trivial⟩ (Sub.refl _)
            · refine AO.weak (ρ' := [(33, (eBool true))]) (H' := [(n4, .mem (.ar 1 (p0.toList.map eU64))), (n5, .mem (.ar 1 (p1.toList.map eU64)))]) ⟨rfl, trivial⟩ (Sub.refl _) ?_
              refine AO.skipG 13 true 33 rfl rfl rfl 39 rfl (by decide) ?_
              exact AO.nilE (ρ' := [(39, (.fl undef))]) (H' := [(n4, .mem (.ar 1 (p0.toList.map eU64))), (n5, .mem (.ar 1 (p1.toList.map eU64)))]) ⟨⟨_, rfl, rfl⟩, Sub.refl _⟩ ⟨rfl, trivial⟩ (Sub.refl _)
            · refine AO.weak (ρ' := [(33, (eBool true)), (39, (.fl undef))]) (H' := [(n4, .mem (.ar 1 (p0.toList.map eU64))), (n5, .mem (.ar 1 (p1.toList.map eU64)))]) ⟨rfl, rfl, trivial⟩ (Sub.refl _) ?_
              refine AO.calm rfl 40 rfl (by decide) (eBool true) (Calm.pickT rfl rfl rfl) ?_
              exact AO.nilE (ρ' := [(40, (eBool true))]) (H' := [(n4, .mem (.ar 1 (p0.toList.map eU64))), (n5, .mem (.ar 1 (p1.toList.map eU64)))]) ⟨⟨_, rfl, rfl⟩, Sub.refl _⟩ ⟨rfl, trivial⟩ (Sub.refl _)
            · refine AO.weak (ρ' := [(40, (eBool true))]) (H' := [(n4, .mem (.ar 1 (p0.toList.map eU64))), (n5, .mem (.ar 1 (p1.toList.map eU64)))]) ⟨rfl, trivial⟩ (Sub.refl _) ?_
              refine AO.calm rfl 41 rfl (by decide) (eBool true) (Calm.move rfl rfl) ?_
              exact AO.nilE (ρ' := [(41, (eBool true))]) (H' := [(n4, .mem (.ar 1 (p0.toList.map eU64))), (n5, .mem (.ar 1 (p1.toList.map eU64)))]) ⟨⟨_, rfl, rfl⟩, Sub.refl _⟩ ⟨rfl, trivial⟩ (Sub.refl _)
            · refine AO.weak (ρ' := [(41, (eBool true))]) (H' := [(n4, .mem (.ar 1 (p0.toList.map eU64))), (n5, .mem (.ar 1 (p1.toList.map eU64)))]) ⟨rfl, trivial⟩ (Sub.refl _) ?_
              refine AO.skipG 21 true 41 rfl rfl rfl 42 rfl (by decide) ?_
              exact AO.nilE (ρ' := [(42, (.fl undef))]) (H' := [(n4, .mem (.ar 1 (p0.toList.map eU64))), (n5, .mem (.ar 1 (p1.toList.map eU64)))]) ⟨⟨_, rfl, rfl⟩, Sub.refl _⟩ ⟨rfl, trivial⟩ (Sub.refl _)
            · refine AO.weak (ρ' := [(41, (eBool true))]) (H' := [(n4, .mem (.ar 1 (p0.toList.map eU64))), (n5, .mem (.ar 1 (p1.toList.map eU64)))]) ⟨rfl, trivial⟩ (Sub.refl _) ?_
              refine AO.skipG 21 true 41 rfl rfl rfl 43 rfl (by decide) ?_
              exact AO.nilE (ρ' := [(43, (.fl undef))]) (H' := [(n4, .mem (.ar 1 (p0.toList.map eU64))), (n5, .mem (.ar 1 (p1.toList.map eU64)))]) ⟨⟨_, rfl, rfl⟩, Sub.refl _⟩ ⟨rfl, trivial⟩ (Sub.refl _)
            · refine AO.weak (ρ' := [(41, (eBool true))]) (H' := [(n4, .mem (.ar 1 (p0.toList.map eU64))), (n5, .mem (.ar 1 (p1.toList.map eU64)))]) ⟨rfl, trivial⟩ (Sub.refl _) ?_
              refine AO.skipG 21 true 41 rfl rfl rfl 44 rfl (by decide) ?_
              exact AO.nilE (ρ' := [(44, (.fl undef))]) (H' := [(n4, .mem (.ar 1 (p0.toList.map eU64))), (n5, .mem (.ar 1 (p1.toList.map eU64)))]) ⟨⟨_, rfl, rfl⟩, Sub.refl _⟩ ⟨rfl, trivial⟩ (Sub.refl _)
            · refine AO.weak (ρ' := [(41, (eBool true))]) (H' := [(n4, .mem (.ar 1 (p0.toList.map eU64))), (n5, .mem (.ar 1 (p1.toList.map eU64)))]) ⟨rfl, trivial⟩ (Sub.refl _) ?_
              refine AO.skipG 21 true 41 rfl rfl rfl 45 rfl (by decide) ?_
              exact AO.nilE (ρ' := [(45, (.fl undef))]) (H' := [(n4, .mem (.ar 1 (p0.toList.map eU64))), (n5, .mem (.ar 1 (p1.toList.map eU64)))]) ⟨⟨_, rfl, rfl⟩, Sub.refl _⟩ ⟨rfl, trivial⟩ (Sub.refl _)
            · refine AO.weak (ρ' := [(41, (eBool true)), (45, (.fl undef))]) (H' := [(n4, .mem (.ar 1 (p0.toList.map eU64))), (n5, .mem (.ar 1 (p1.toList.map eU64)))]) ⟨rfl, rfl, trivial⟩ (Sub.refl _) ?_
              refine AO.calm rfl 46 rfl (by decide) (eBool true) (Calm.pickT rfl rfl rfl) ?_
              exact AO.nilE (ρ' := [(46, (eBool true))]) (H' := [(n4, .mem (.ar 1 (p0.toList.map eU64))), (n5, .mem (.ar 1 (p1.toList.map eU64)))]) ⟨⟨_, rfl, rfl⟩, Sub.refl _⟩ ⟨rfl, trivial⟩ (Sub.refl _)
            · refine AO.weak (ρ' := [(46, (eBool true))]) (H' := [(n4, .mem (.ar 1 (p0.toList.map eU64))), (n5, .mem (.ar 1 (p1.toList.map eU64)))]) ⟨rfl, trivial⟩ (Sub.refl _) ?_
              refine AO.calm rfl 47 rfl (by decide) (eBool true) (Calm.move rfl rfl) ?_
              exact AO.nilE (ρ' := [(47, (eBool true))]) (H' := [(n4, .mem (.ar 1 (p0.toList.map eU64))), (n5, .mem (.ar 1 (p1.toList.map eU64)))]) ⟨⟨_, rfl, rfl⟩, Sub.refl _⟩ ⟨rfl, trivial⟩ (Sub.refl _)
            · refine AO.weak (ρ' := [(47, (eBool true))]) (H' := [(n4, .mem (.ar 1 (p0.toList.map eU64))), (n5, .mem (.ar 1 (p1.toList.map eU64)))]) ⟨rfl, trivial⟩ (Sub.refl _) ?_
              refine AO.skipG 27 true 47 rfl rfl rfl 48 rfl (by decide) ?_
              exact AO.nilE (ρ' := [(48, (.fl undef))]) (H' := [(n4, .mem (.ar 1 (p0.toList.map eU64))), (n5, .mem (.ar 1 (p1.toList.map eU64)))]) ⟨⟨_, rfl, rfl⟩, Sub.refl _⟩ ⟨rfl, trivial⟩ (Sub.refl _)
            · refine AO.weak (ρ' := [(47, (eBool true))]) (H' := [(n4, .mem (.ar 1 (p0.toList.map eU64))), (n5, .mem (.ar 1 (p1.toList.map eU64)))]) ⟨rfl, trivial⟩ (Sub.refl _) ?_
              refine AO.skipG 27 true 47 rfl rfl rfl 49 rfl (by decide) ?_
              exact AO.nilE (ρ' := [(49, (.fl undef))]) (H' := [(n4, .mem (.ar 1 (p0.toList.map eU64))), (n5, .mem (.ar 1 (p1.toList.map eU64)))]) ⟨⟨_, rfl, rfl⟩, Sub.refl _⟩ ⟨rfl, trivial⟩ (Sub.refl _)
            · refine AO.weak (ρ' := [(47, (eBool true))]) (H' := [(n4, .mem (.ar 1 (p0.toList.map eU64))), (n5, .mem (.ar 1 (p1.toList.map eU64)))]) ⟨rfl, trivial⟩ (Sub.refl _) ?_
              refine AO.skipG 27 true 47 rfl rfl rfl 50 rfl (by decide) ?_
              exact AO.nilE (ρ' := [(50, (.fl undef))]) (H' := [(n4, .mem (.ar 1 (p0.toList.map eU64))), (n5, .mem (.ar 1 (p1.toList.map eU64)))]) ⟨⟨_, rfl, rfl⟩, Sub.refl _⟩ ⟨rfl, trivial⟩ (Sub.refl _)
            · refine AO.weak (ρ' := [(47, (eBool true))]) (H' := [(n4, .mem (.ar 1 (p0.toList.map eU64))), (n5, .mem (.ar 1 (p1.toList.map eU64)))]) ⟨rfl, trivial⟩ (Sub.refl _) ?_
              refine AO.skipG 27 true 47 rfl rfl rfl 51 rfl (by decide) ?_
              exact AO.nilE (ρ' := [(51, (.fl undef))]) (H' := [(n4, .mem (.ar 1 (p0.toList.map eU64))), (n5, .mem (.ar 1 (p1.toList.map eU64)))]) ⟨⟨_, rfl, rfl⟩, Sub.refl _⟩ ⟨rfl, trivial⟩ (Sub.refl _)
            · refine AO.weak (ρ' := [(47, (eBool true))]) (H' := [(n4, .mem (.ar 1 (p0.toList.map eU64))), (n5, .mem (.ar 1 (p1.toList.map eU64)))]) ⟨rfl, trivial⟩ (Sub.refl _) ?_
              refine AO.skipG 27 true 47 rfl rfl rfl 52 rfl (by decide) ?_
              exact AO.nilE (ρ' := [(52, (.fl undef))]) (H' := [(n4, .mem (.ar 1 (p0.toList.map eU64))), (n5, .mem (.ar 1 (p1.toList.map eU64)))]) ⟨⟨_, rfl, rfl⟩, Sub.refl _⟩ ⟨rfl, trivial⟩ (Sub.refl _)
            · refine AO.weak (ρ' := [(47, (eBool true))]) (H' := [(n4, .mem (.ar 1 (p0.toList.map eU64))), (n5, .mem (.ar 1 (p1.toList.map eU64)))]) ⟨rfl, trivial⟩ (Sub.refl _) ?_
              refine AO.skipG 27 true 47 rfl rfl rfl 53 rfl (by decide) ?_
              exact AO.nilE (ρ' := [(53, (.fl undef))]) (H' := [(n4, .mem (.ar 1 (p0.toList.map eU64))), (n5, .mem (.ar 1 (p1.toList.map eU64)))]) ⟨⟨_, rfl, rfl⟩, Sub.refl _⟩ ⟨rfl, trivial⟩ (Sub.refl _)
            · refine AO.weak (ρ' := [(47, (eBool true))]) (H' := [(n4, .mem (.ar 1 (p0.toList.map eU64))), (n5, .mem (.ar 1 (p1.toList.map eU64)))]) ⟨rfl, trivial⟩ (Sub.refl _) ?_
              refine AO.skipG 27 true 47 rfl rfl rfl 54 rfl (by decide) ?_
              exact AO.nilE (ρ' := [(54, (.fl undef))]) (H' := [(n4, .mem (.ar 1 (p0.toList.map eU64))), (n5, .mem (.ar 1 (p1.toList.map eU64)))]) ⟨⟨_, rfl, rfl⟩, Sub.refl _⟩ ⟨rfl, trivial⟩ (Sub.refl _)
            · refine AO.weak (ρ' := [(47, (eBool true))]) (H' := [(n4, .mem (.ar 1 (p0.toList.map eU64))), (n5, .mem (.ar 1 (p1.toList.map eU64)))]) ⟨rfl, trivial⟩ (Sub.refl _) ?_
              refine AO.skipG 27 true 47 rfl rfl rfl 55 rfl (by decide) ?_
              exact AO.nilE (ρ' := [(55, (.fl undef))]) (H' := [(n4, .mem (.ar 1 (p0.toList.map eU64))), (n5, .mem (.ar 1 (p1.toList.map eU64)))]) ⟨⟨_, rfl, rfl⟩, Sub.refl _⟩ ⟨rfl, trivial⟩ (Sub.refl _)
            · refine AO.weak (ρ' := [(47, (eBool true)), (55, (.fl undef))]) (H' := [(n4, .mem (.ar 1 (p0.toList.map eU64))), (n5, .mem (.ar 1 (p1.toList.map eU64)))]) ⟨rfl, rfl, trivial⟩ (Sub.refl _) ?_
              refine AO.calm rfl 56 rfl (by decide) (eBool true) (Calm.pickT rfl rfl rfl) ?_
              exact AO.nilE (ρ' := [(56, (eBool true))]) (H' := [(n4, .mem (.ar 1 (p0.toList.map eU64))), (n5, .mem (.ar 1 (p1.toList.map eU64)))]) ⟨⟨_, rfl, rfl⟩, Sub.refl _⟩ ⟨rfl, trivial⟩ (Sub.refl _)
          · cases hq11
            exact ⟨rfl, rfl, rfl⟩
        · have hq11 := (if_neg hc13).symm.trans hq11
          obtain ⟨t14, et14, hq11⟩ := of_bind hq11
          by_cases hc15 : t14 ≠ (t8.length : Int)
          · have hq11 := (if_pos hc15).symm.trans hq11
            refine AW.regAny (by rfl) (by decide +kernel) [(.ar 1 (p0.toList.map eU64)), (.fz 1 (t12.map eU8)), (eStr (strOfNums t12)), (.fz 1 (t8.map eU8)), (eStr (strOfNums t8)), (eBool (decide ((strOfNums t12) ≠ (strOfNums t8)))), (eBool (decide ((strOfNums t12) ≠ (strOfNums t8)))), (.ar 1 (p0.toList.map eU64)), (eI64 t14), (.fz 1 (t8.map eU8)), (eI64 (t8.length : Int)), (eBool (decide (t14 ≠ (t8.length : Int)))), (eBool (decide (t14 ≠ (t8.length : Int)))), (eBool (decide (t14 ≠ (t8.length : Int)))), (.fl undef), (.fl undef), (.fl undef), (.fl undef), (.fl undef), (.fl undef), (eBool true), (eBool true), (.fl undef), (.fl undef), (.fl undef), (.fl undef), (eBool true), (eBool true), (.fl undef), (.fl undef), (.fl undef), (.fl undef), (.fl undef), (.fl undef), (.fl undef), (.fl undef), (eBool true)] [(2, (eU8 p2)), (3, (.ptr n4 0)), (4, (.ptr n5 0)), (7, (.fz 1 (t8.map eU8))), (8, (eI64 x9))] ⟨rfl, rfl, rfl, rfl, rfl, trivial⟩ rfl ?_ [(3, (.ptr n4 0)), (4, (.ptr n5 0)), (56, (eBool true))] [(n4, .mem (.ar 1 (p0.toList.map eU64))), (n5, .mem (.ar 1 (p1.toList.map eU64)))] ⟨rfl, rfl, rfl, trivial⟩ (Sub.refl _) ?_
            · refine ⟨?_, ?_, ?_, ?_, ?_, ?_, ?_, ?_, ?_, ?_, ?_, ?_, ?_, ?_, ?_, ?_, ?_, ?_, ?_, ?_, ?_, ?_, ?_, ?_, ?_, ?_, ?_, ?_, ?_, ?_, ?_, ?_, ?_, ?_, ?_, ?_, ?_, trivial⟩
              · refine AO.weak (ρ' := [(3, (.ptr n4 0))]) (H' := [(n4, .mem (.ar 1 (p0.toList.map eU64))), (n5, .mem (.ar 1 (p1.toList.map eU64)))]) ⟨rfl, trivial⟩ (Sub.refl _) ?_
                refine AO.calm rfl 20 rfl (by decide) (.ar 1 (p0.toList.map eU64)) (Calm.load 0 rfl rfl rfl (At.cast At.here rfl) ag27 (by rw [sz27]; simp [AV.size])) ?_
                exact AO.nilE (ρ' := [(20, (.ar 1 (p0.toList.map eU64)))]) (H' := [(n4, .mem (.ar 1 (p0.toList.map eU64))), (n5, .mem (.ar 1 (p1.toList.map eU64)))]) ⟨⟨_, rfl, rfl⟩, Sub.refl _⟩ ⟨rfl, trivial⟩ (Sub.refl _)
              · refine AO.weak (ρ' := [(20, (.ar 1 (p0.toList.map eU64)))]) (H' := [(n4, .mem (.ar 1 (p0.toList.map eU64))), (n5, .mem (.ar 1 (p1.toList.map eU64)))]) ⟨rfl, trivial⟩ (Sub.refl _) ?_
                refine AO.callS [(.ar 1 (p0.toList.map eU64))] (.fz 1 (t12.map eU8)) 21 rfl (by decide) ok17 rfl rfl rfl ⟨rfl, rfl, trivial⟩ (byteset_List_spec et12) ?_
                exact AO.nilE (ρ' := [(21, (.fz 1 (t12.map eU8)))]) (H' := [(n4, .mem (.ar 1 (p0.toList.map eU64))), (n5, .mem (.ar 1 (p1.toList.map eU64)))]) ⟨⟨_, rfl, rfl⟩, Sub.refl _⟩ ⟨rfl, trivial⟩ (Sub.refl _)
              · refine AO.weak (ρ' := [(21, (.fz 1 (t12.map eU8)))]) (H' := [(n4, .mem (.ar 1 (p0.toList.map eU64))), (n5, .mem (.ar 1 (p1.toList.map eU64)))]) ⟨rfl, trivial⟩ (Sub.refl _) ?_
                refine AO.calm rfl 22 rfl (by decide) (eStr (strOfNums t12)) (Calm.strL rfl rfl Tryd.underlying22 Tryd.underlying9 Tryd.underlying5) ?_
                exact AO.nilE (ρ' := [(22, (eStr (strOfNums t12)))]) (H' := [(n4, .mem (.ar 1 (p0.toList.map eU64))), (n5, .mem (.ar 1 (p1.toList.map eU64)))]) ⟨⟨_, rfl, rfl⟩, Sub.refl _⟩ ⟨rfl, trivial⟩ (Sub.refl _)
              · refine AO.weak (ρ' := [(7, (.fz 1 (t8.map eU8)))]) (H' := [(n4, .mem (.ar 1 (p0.toList.map eU64))), (n5, .mem (.ar 1 (p1.toList.map eU64)))]) ⟨rfl, trivial⟩ (Sub.refl _) ?_
                refine AO.calm rfl 23 rfl (by decide) (.fz 1 (t8.map eU8)) (Calm.move rfl rfl) ?_
                exact AO.nilE (ρ' := [(23, (.fz 1 (t8.map eU8)))]) (H' := [(n4, .mem (.ar 1 (p0.toList.map eU64))), (n5, .mem (.ar 1 (p1.toList.map eU64)))]) ⟨⟨_, rfl, rfl⟩, Sub.refl _⟩ ⟨rfl, trivial⟩ (Sub.refl _)
              · refine AO.weak (ρ' := [(23, (.fz 1 (t8.map eU8)))]) (H' := [(n4, .mem (.ar 1 (p0.toList.map eU64))), (n5, .mem (.ar 1 (p1.toList.map eU64)))]) ⟨rfl, trivial⟩ (Sub.refl _) ?_
                refine AO.calm rfl 24 rfl (by decide) (eStr (strOfNums t8)) (Calm.strL rfl rfl Tryd.underlying22 Tryd.underlying9 Tryd.underlying5) ?_
                exact AO.nilE (ρ' := [(24, (eStr (strOfNums t8)))]) (H' := [(n4, .mem (.ar 1 (p0.toList.map eU64))), (n5, .mem (.ar 1 (p1.toList.map eU64)))]) ⟨⟨_, rfl, rfl⟩, Sub.refl _⟩ ⟨rfl, trivial⟩ (Sub.refl _)
              · refine AO.weak (ρ' := [(22, (eStr (strOfNums t12))), (24, (eStr (strOfNums t8)))]) (H' := [(n4, .mem (.ar 1 (p0.toList.map eU64))), (n5, .mem (.ar 1 (p1.toList.map eU64)))]) ⟨rfl, rfl, trivial⟩ (Sub.refl _) ?_
                refine AO.calm rfl 25 rfl (by decide) (eBool (decide ((strOfNums t12) ≠ (strOfNums t8)))) (Calm.str rfl rfl rfl rfl) ?_
                exact AO.nilE (ρ' := [(25, (eBool (decide ((strOfNums t12) ≠ (strOfNums t8)))))]) (H' := [(n4, .mem (.ar 1 (p0.toList.map eU64))), (n5, .mem (.ar 1 (p1.toList.map eU64)))]) ⟨⟨_, rfl, rfl⟩, Sub.refl _⟩ ⟨rfl, trivial⟩ (Sub.refl _)
              · refine AO.weak (ρ' := [(25, (eBool (decide ((strOfNums t12) ≠ (strOfNums t8)))))]) (H' := [(n4, .mem (.ar 1 (p0.toList.map eU64))), (n5, .mem (.ar 1 (p1.toList.map eU64)))]) ⟨rfl, trivial⟩ (Sub.refl _) ?_
                refine AO.calm rfl 26 rfl (by decide) (eBool (decide ((strOfNums t12) ≠ (strOfNums t8)))) (Calm.move rfl rfl) ?_
                exact AO.nilE (ρ' := [(26, (eBool (decide ((strOfNums t12) ≠ (strOfNums t8)))))]) (H' := [(n4, .mem (.ar 1 (p0.toList.map eU64))), (n5, .mem (.ar 1 (p1.toList.map eU64)))]) ⟨⟨_, rfl, rfl⟩, Sub.refl _⟩ ⟨rfl, trivial⟩ (Sub.refl _)
              · refine AO.weak (ρ' := [(3, (.ptr n4 0)), (26, (eBool (decide ((strOfNums t12) ≠ (strOfNums t8)))))]) (H' := [(n4, .mem (.ar 1 (p0.toList.map eU64))), (n5, .mem (.ar 1 (p1.toList.map eU64)))]) ⟨rfl, rfl, trivial⟩ (Sub.refl _) ?_
                refine AO.calmG 6 false 26 rfl rfl (congrArg (fun b => some (AV.fl (Value.bool b))) (decide_eq_false hc13)) 27 rfl (by decide) (.ar 1 (p0.toList.map eU64)) (Calm.load 0 rfl rfl rfl (At.cast At.here rfl) ag27 (by rw [sz27]; simp [AV.size])) ?_
                exact AO.nilE (ρ' := [(27, (.ar 1 (p0.toList.map eU64)))]) (H' := [(n4, .mem (.ar 1 (p0.toList.map eU64))), (n5, .mem (.ar 1 (p1.toList.map eU64)))]) ⟨⟨_, rfl, rfl⟩, Sub.refl _⟩ ⟨rfl, trivial⟩ (Sub.refl _)
              · refine AO.weak (ρ' := [(26, (eBool (decide ((strOfNums t12) ≠ (strOfNums t8))))), (27, (.ar 1 (p0.toList.map eU64)))]) (H' := [(n4, .mem (.ar 1 (p0.toList.map eU64))), (n5, .mem (.ar 1 (p1.toList.map eU64)))]) ⟨rfl, rfl, trivial⟩ (Sub.refl _) ?_
                refine AO.callG 6 false 26 [(.ar 1 (p0.toList.map eU64))] (eI64 t14) 28 rfl (by decide) ok18 rfl rfl (congrArg (fun b => some (AV.fl (Value.bool b))) (decide_eq_false hc13)) rfl rfl ⟨rfl, rfl, trivial⟩ (byteset_Len_spec et14) ?_
                exact AO.nilE (ρ' := [(28, (eI64 t14))]) (H' := [(n4, .mem (.ar 1 (p0.toList.map eU64))), (n5, .mem (.ar 1 (p1.toList.map eU64)))]) ⟨⟨_, rfl, rfl⟩, Sub.refl _⟩ ⟨rfl, trivial⟩ (Sub.refl _)
              · refine AO.weak (ρ' := [(7, (.fz 1 (t8.map eU8))), (26, (eBool (decide ((strOfNums t12) ≠ (strOfNums t8)))))]) (H' := [(n4, .mem (.ar 1 (p0.toList.map eU64))), (n5, .mem (.ar 1 (p1.toList.map eU64)))]) ⟨rfl, rfl, trivial⟩ (Sub.refl _) ?_
                refine AO.calmG 6 false 26 rfl rfl (congrArg (fun b => some (AV.fl (Value.bool b))) (decide_eq_false hc13)) 29 rfl (by decide) (.fz 1 (t8.map eU8)) (Calm.move rfl rfl) ?_
                exact AO.nilE (ρ' := [(29, (.fz 1 (t8.map eU8)))]) (H' := [(n4, .mem (.ar 1 (p0.toList.map eU64))), (n5, .mem (.ar 1 (p1.toList.map eU64)))]) ⟨⟨_, rfl, rfl⟩, Sub.refl _⟩ ⟨rfl, trivial⟩ (Sub.refl _)
              · refine AO.weak (ρ' := [(26, (eBool (decide ((strOfNums t12) ≠ (strOfNums t8))))), (29, (.fz 1 (t8.map eU8)))]) (H' := [(n4, .mem (.ar 1 (p0.toList.map eU64))), (n5, .mem (.ar 1 (p1.toList.map eU64)))]) ⟨rfl, rfl, trivial⟩ (Sub.refl _) ?_
                refine AO.calmG 6 false 26 rfl rfl (congrArg (fun b => some (AV.fl (Value.bool b))) (decide_eq_false hc13)) 30 rfl (by decide) (eI64 (t8.length : Int)) (Calm.lenL rfl rfl Tryd.underlying22) ?_
                exact AO.nilE (ρ' := [(30, (eI64 (t8.length : Int)))]) (H' := [(n4, .mem (.ar 1 (p0.toList.map eU64))), (n5, .mem (.ar 1 (p1.toList.map eU64)))]) ⟨⟨_, rfl, rfl⟩, Sub.refl _⟩ ⟨rfl, trivial⟩ (Sub.refl _)
              · refine AO.weak (ρ' := [(26, (eBool (decide ((strOfNums t12) ≠ (strOfNums t8))))), (28, (eI64 t14)), (30, (eI64 (t8.length : Int)))]) (H' := [(n4, .mem (.ar 1 (p0.toList.map eU64))), (n5, .mem (.ar 1 (p1.toList.map eU64)))]) ⟨rfl, rfl, rfl, trivial⟩ (Sub.refl _) ?_
                refine AO.calmG 6 false 26 rfl rfl (congrArg (fun b => some (AV.fl (Value.bool b))) (decide_eq_false hc13)) 31 rfl (by decide) (eBool (decide (t14 ≠ (t8.length : Int)))) (Calm.int rfl rfl rfl rfl) ?_
                exact AO.nilE (ρ' := [(31, (eBool (decide (t14 ≠ (t8.length : Int)))))]) (H' := [(n4, .mem (.ar 1 (p0.toList.map eU64))), (n5, .mem (.ar 1 (p1.toList.map eU64)))]) ⟨⟨_, rfl, rfl⟩, Sub.refl _⟩ ⟨rfl, trivial⟩ (Sub.refl _)
              · refine AO.weak (ρ' := [(26, (eBool (decide ((strOfNums t12) ≠ (strOfNums t8))))), (31, (eBool (decide (t14 ≠ (t8.length : Int)))))]) (H' := [(n4, .mem (.ar 1 (p0.toList.map eU64))), (n5, .mem (.ar 1 (p1.toList.map eU64)))]) ⟨rfl, rfl, trivial⟩ (Sub.refl _) ?_
                refine AO.calm rfl 32 rfl (by decide) (eBool (decide (t14 ≠ (t8.length : Int)))) (Calm.pickF rfl (congrArg (fun b => some (AV.fl (Value.bool b))) (decide_eq_false hc13)) rfl) ?_
                exact AO.nilE (ρ' := [(32, (eBool (decide (t14 ≠ (t8.length : Int)))))]) (H' := [(n4, .mem (.ar 1 (p0.toList.map eU64))), (n5, .mem (.ar 1 (p1.toList.map eU64)))]) ⟨⟨_, rfl, rfl⟩, Sub.refl _⟩ ⟨rfl, trivial⟩ (Sub.refl _)
              · refine AO.weak (ρ' := [(32, (eBool (decide (t14 ≠ (t8.length : Int)))))]) (H' := [(n4, .mem (.ar 1 (p0.toList.map eU64))), (n5, .mem (.ar 1 (p1.toList.map eU64)))]) ⟨rfl, trivial⟩ (Sub.refl _) ?_
                refine AO.calm rfl 33 rfl (by decide) (eBool (decide (t14 ≠ (t8.length : Int)))) (Calm.move rfl rfl) ?_
                exact AO.nilE (ρ' := [(33, (eBool (decide (t14 ≠ (t8.length : Int)))))]) (H' := [(n4, .mem (.ar 1 (p0.toList.map eU64))), (n5, .mem (.ar 1 (p1.toList.map eU64)))]) ⟨⟨_, rfl, rfl⟩, Sub.refl _⟩ ⟨rfl, trivial⟩ (Sub.refl _)
              · refine AO.weak (ρ' := [(33, (eBool (decide (t14 ≠ (t8.length : Int)))))]) (H' := [(n4, .mem (.ar 1 (p0.toList.map eU64))), (n5, .mem (.ar 1 (p1.toList.map eU64)))]) ⟨rfl, trivial⟩ (Sub.refl _) ?_
                refine AO.skipG 13 true 33 rfl rfl (congrArg (fun b => some (AV.fl (Value.bool b))) (decide_eq_true hc15)) 34 rfl (by decide) ?_
                exact AO.nilE (ρ' := [(34, (.fl undef))]) (H' := [(n4, .mem (.ar 1 (p0.toList.map eU64))), (n5, .mem (.ar 1 (p1.toList.map eU64)))]) ⟨⟨_, rfl, rfl⟩, Sub.refl _⟩ ⟨rfl, trivial⟩ (Sub.refl _)
              · refine AO.weak (ρ' := [(33, (eBool (decide (t14 ≠ (t8.length : Int)))))]) (H' := [(n4, .mem (.ar 1 (p0.toList.map eU64))), (n5, .mem (.ar 1 (p1.toList.map eU64)))]) ⟨rfl, trivial⟩ (Sub.refl _) ?_
                refine AO.skipG 13 true 33 rfl rfl (congrArg (fun b => some (AV.fl (Value.bool b))) (decide_eq_true hc15)) 35 rfl (by decide) ?_
                exact AO.nilE (ρ' := [(35, (.fl undef))]) (H' := [(n4, .mem (.ar 1 (p0.toList.map eU64))), (n5, .mem (.ar 1 (p1.toList.map eU64)))]) ⟨⟨_, rfl, rfl⟩, Sub.refl _⟩ ⟨rfl, trivial⟩ (Sub.refl _)
              · refine AO.weak (ρ' := [(33, (eBool (decide (t14 ≠ (t8.length : Int)))))]) (H' := [(n4, .mem (.ar 1 (p0.toList.map eU64))), (n5, .mem (.ar 1 (p1.toList.map eU64)))]) ⟨rfl, trivial⟩ (Sub.refl _) ?_
                refine AO.skipG 13 true 33 rfl rfl (congrArg (fun b => some (AV.fl (Value.bool b))) (decide_eq_true hc15)) 36 rfl (by decide) ?_
                exact AO.nilE (ρ' := [(36, (.fl undef))]) (H' := [(n4, .mem (.ar 1 (p0.toList.map eU64))), (n5, .mem (.ar 1 (p1.toList.map eU64)))]) ⟨⟨_, rfl, rfl⟩, Sub.refl _⟩ ⟨rfl, trivial⟩ (Sub.refl _)
              · refine AO.weak (ρ' := [(33, (eBool (decide (t14 ≠ (t8.length : Int)))))]) (H' := [(n4, .mem (.ar 1 (p0.toList.map eU64))), (n5, .mem (.ar 1 (p1.toList.map eU64)))]) ⟨rfl, trivial⟩ (Sub.refl _) ?_
                refine AO.skipG 13 true 33 rfl rfl (congrArg (fun b => some (AV.fl (Value.bool b))) (decide_eq_true hc15)) 37 rfl (by decide) ?_
                exact AO.nilE (ρ' := [(37, (.fl undef))]) (H' := [(n4, .mem (.ar 1 (p0.toList.map eU64))), (n5, .mem (.ar 1 (p1.toList.map eU64)))]) ⟨⟨_, rfl, rfl⟩, Sub.refl _⟩ ⟨rfl, trivial⟩ (Sub.refl _)
              · refine AO.weak (ρ' := [(33, (eBool (decide (t14 ≠ (t8.length : Int)))))]) (H' := [(n4, .mem (.ar 1 (p0.toList.map eU64))), (n5, .mem (.ar 1 (p1.toList.map eU64)))]) ⟨rfl, trivial⟩ (Sub.refl _) ?_
                refine AO.skipG 13 true 33 rfl rfl (congrArg (fun b => some (AV.fl (Value.bool b))) (decide_eq_true hc15)) 38 rfl (by decide) ?_
                exact AO.nilE (ρ' := [(38, (.fl undef))]) (H' := [(n4, .mem (.ar 1 (p0.toList.map eU64))), (n5, .mem (.ar 1 (p1.toList.map eU64)))]) ⟨⟨_, rfl, rfl⟩, Sub.refl _⟩ ⟨rfl, trivial⟩ (Sub.refl _)
              · refine AO.weak (ρ' := [(33, (eBool (decide (t14 ≠ (t8.length : Int)))))]) (H' := [(n4, .mem (.ar 1 (p0.toList.map eU64))), (n5, .mem (.ar 1 (p1.toList.map eU64)))]) ⟨rfl, trivial⟩ (Sub.refl _) ?_
                refine AO.skipG 13 true 33 rfl rfl (congrArg (fun b => some (AV.fl (Value.bool b))) (decide_eq_true hc15)) 39 rfl (by decide) ?_
                exact AO.nilE (ρ' := [(39, (.fl undef))]) (H' := [(n4, .mem (.ar 1 (p0.toList.map eU64))), (n5, .mem (.ar 1 (p1.toList.map eU64)))]) ⟨⟨_, rfl, rfl⟩, Sub.refl _⟩ ⟨rfl, trivial⟩ (Sub.refl _)
              · refine AO.weak (ρ' := [(33, (eBool (decide (t14 ≠ (t8.length : Int))))), (39, (.fl undef))]) (H' := [(n4, .mem (.ar 1 (p0.toList.map eU64))), (n5, .mem (.ar 1 (p1.toList.map eU64)))]) ⟨rfl, rfl, trivial⟩ (Sub.refl _) ?_
                refine AO.calm rfl 40 rfl (by decide) (eBool true) (Calm.pickT rfl (congrArg (fun b => some (AV.fl (Value.bool b))) (decide_eq_true hc15)) rfl) ?_
                exact AO.nilE (ρ' := [(40, (eBool true))]) (H' := [(n4, .mem (.ar 1 (p0.toList.map eU64))), (n5, .mem (.ar 1 (p1.toList.map eU64)))]) ⟨⟨_, rfl, rfl⟩, Sub.refl _⟩ ⟨rfl, trivial⟩ (Sub.refl _)
              · refine AO.weak (ρ' := [(40, (eBool true))]) (H' := [(n4, .mem (.ar 1 (p0.toList.map eU64))), (n5, .mem (.ar 1 (p1.toList.map eU64)))]) ⟨rfl, trivial⟩ (Sub.refl _) ?_
                refine AO.calm rfl 41 rfl (by decide) (eBool true) (Calm.move rfl rfl) ?_
                exact AO.nilE (ρ' := [(41, (eBool true))]) (H' := [(n4, .mem (.ar 1 (p0.toList.map eU64))), (n5, .mem (.ar 1 (p1.toList.map eU64)))]) ⟨⟨_, rfl, rfl⟩, Sub.refl _⟩ ⟨rfl, trivial⟩ (Sub.refl _)
              · refine AO.weak (ρ' := [(41, (eBool true))]) (H' := [(n4, .mem (.ar 1 (p0.toList.map eU64))), (n5, .mem (.ar 1 (p1.toList.map eU64)))]) ⟨rfl, trivial⟩ (Sub.refl _) ?_
                refine AO.skipG 21 true 41 rfl rfl rfl 42 rfl (by decide) ?_
                exact AO.nilE (ρ' := [(42, (.fl undef))]) (H' := [(n4, .mem (.ar 1 (p0.toList.map eU64))), (n5, .mem (.ar 1 (p1.toList.map eU64)))]) ⟨⟨_, rfl, rfl⟩, Sub.refl _⟩ ⟨rfl, trivial⟩ (Sub.refl _)
              · refine AO.weak (ρ' := [(41, (eBool true))]) (H' := [(n4, .mem (.ar 1 (p0.toList.map eU64))), (n5, .mem (.ar 1 (p1.toList.map eU64)))]) ⟨rfl, trivial⟩ (Sub.refl _) ?_
                refine AO.skipG 21 true 41 rfl rfl rfl 43 rfl (by decide) ?_
                exact AO.nilE (ρ' := [(43, (.fl undef))]) (H' := [(n4, .mem (.ar 1 (p0.toList.map eU64))), (n5, .mem (.ar 1 (p1.toList.map eU64)))]) ⟨⟨_, rfl, rfl⟩, Sub.refl _⟩ ⟨rfl, trivial⟩ (Sub.refl _)
              · refine AO.weak (ρ' := [(41, (eBool true))]) (H' := [(n4, .mem (.ar 1 (p0.toList.map eU64))), (n5, .mem (.ar 1 (p1.toList.map eU64)))]) ⟨rfl, trivial⟩ (Sub.refl _) ?_
                refine AO.skipG 21 true 41 rfl rfl rfl 44 rfl (by decide) ?_
                exact AO.nilE (ρ' := [(44, (.fl undef))]) (H' := [(n4, .mem (.ar 1 (p0.toList.map eU64))), (n5, .mem (.ar 1 (p1.toList.map eU64)))]) ⟨⟨_, rfl, rfl⟩, Sub.refl _⟩ ⟨rfl, trivial⟩ (Sub.refl _)
              · refine AO.weak (ρ' := [(41, (eBool true))]) (H' := [(n4, .mem (.ar 1 (p0.toList.map eU64))), (n5, .mem (.ar 1 (p1.toList.map eU64)))]) ⟨rfl, trivial⟩ (Sub.refl _) ?_
                refine AO.skipG 21 true 41 rfl rfl rfl 45 rfl (by decide) ?_
                exact AO.nilE (ρ' := [(45, (.fl undef))]) (H' := [(n4, .mem (.ar 1 (p0.toList.map eU64))), (n5, .mem (.ar 1 (p1.toList.map eU64)))]) ⟨⟨_, rfl, rfl⟩, Sub.refl _⟩ ⟨rfl, trivial⟩ (Sub.refl _)
              · refine AO.weak (ρ' := [(41, (eBool true)), (45, (.fl undef))]) (H' := [(n4, .mem (.ar 1 (p0.toList.map eU64))), (n5, .mem (.ar 1 (p1.toList.map eU64)))]) ⟨rfl, rfl, trivial⟩ (Sub.refl _) ?_
                refine AO.calm rfl 46 rfl (by decide) (eBool true) (Calm.pickT rfl rfl rfl) ?_
                exact AO.nilE (ρ' := [(46, (eBool true))]) (H' := [(n4, .mem (.ar 1 (p0.toList.map eU64))), (n5, .mem (.ar 1 (p1.toList.map eU64)))]) ⟨⟨_, rfl, rfl⟩, Sub.refl _⟩ ⟨rfl, trivial⟩ (Sub.refl _)
              · refine AO.weak (ρ' := [(46, (eBool true))]) (H' := [(n4, .mem (.ar 1 (p0.toList.map eU64))), (n5, .mem (.ar 1 (p1.toList.map eU64)))]) ⟨rfl, trivial⟩ (Sub.refl _) ?_
                refine AO.calm rfl 47 rfl (by decide) (eBool true) (Calm.move rfl rfl) ?_
                exact AO.nilE (ρ' := [(47, (eBool true))]) (H' := [(n4, .mem (.ar 1 (p0.toList.map eU64))), (n5, .mem (.ar 1 (p1.toList.map eU64)))]) ⟨⟨_, rfl, rfl⟩, Sub.refl _⟩ ⟨rfl, trivial⟩ (Sub.refl _)
              · refine AO.weak (ρ' := [(47, (eBool true))]) (H' := [(n4, .mem (.ar 1 (p0.toList.map eU64))), (n5, .mem (.ar 1 (p1.toList.map eU64)))]) ⟨rfl, trivial⟩ (Sub.refl _) ?_
                refine AO.skipG 27 true 47 rfl rfl rfl 48 rfl (by decide) ?_
                exact AO.nilE (ρ' := [(48, (.fl undef))]) (H' := [(n4, .mem (.ar 1 (p0.toList.map eU64))), (n5, .mem (.ar 1 (p1.toList.map eU64)))]) ⟨⟨_, rfl, rfl⟩, Sub.refl _⟩ ⟨rfl, trivial⟩ (Sub.refl _)
              · refine AO.weak (ρ' := [(47, (eBool true))]) (H' := [(n4, .mem (.ar 1 (p0.toList.map eU64))), (n5, .mem (.ar 1 (p1.toList.map eU64)))]) ⟨rfl, trivial⟩ (Sub.refl _) ?_
                refine AO.skipG 27 true 47 rfl rfl rfl 49 rfl (by decide) ?_
                exact AO.nilE (ρ' := [(49, (.fl undef))]) (H' := [(n4, .mem (.ar 1 (p0.toList.map eU64))), (n5, .mem (.ar 1 (p1.toList.map eU64)))]) ⟨⟨_, rfl, rfl⟩, Sub.refl _⟩ ⟨rfl, trivial⟩ (Sub.refl _)
              · refine AO.weak (ρ' := [(47, (eBool true))]) (H' := [(n4, .mem (.ar 1 (p0.toList.map eU64))), (n5, .mem (.ar 1 (p1.toList.map eU64)))]) ⟨rfl, trivial⟩ (Sub.refl _) ?_
                refine AO.skipG 27 true 47 rfl rfl rfl 50 rfl (by decide) ?_
                exact AO.nilE (ρ' := [(50, (.fl undef))]) (H' := [(n4, .mem (.ar 1 (p0.toList.map eU64))), (n5, .mem (.ar 1 (p1.toList.map eU64)))]) ⟨⟨_, rfl, rfl⟩, Sub.refl _⟩ ⟨rfl, trivial⟩ (Sub.refl _)
              · refine AO.weak (ρ' := [(47, (eBool true))]) (H' := [(n4, .mem (.ar 1 (p0.toList.map eU64))), (n5, .mem (.ar 1 (p1.toList.map eU64)))]) ⟨rfl, trivial⟩ (Sub.refl _) ?_
                refine AO.skipG 27 true 47 rfl rfl rfl 51 rfl (by decide) ?_
                exact AO.nilE (ρ' := [(51, (.fl undef))]) (H' := [(n4, .mem (.ar 1 (p0.toList.map eU64))), (n5, .mem (.ar 1 (p1.toList.map eU64)))]) ⟨⟨_, rfl, rfl⟩, Sub.refl _⟩ ⟨rfl, trivial⟩ (Sub.refl _)
              · refine AO.weak (ρ' := [(47, (eBool true))]) (H' := [(n4, .mem (.ar 1 (p0.toList.map eU64))), (n5, .mem (.ar 1 (p1.toList.map eU64)))]) ⟨rfl, trivial⟩ (Sub.refl _) ?_
                refine AO.skipG 27 true 47 rfl rfl rfl 52 rfl (by decide) ?_
                exact AO.nilE (ρ' := [(52, (.fl undef))]) (H' := [(n4, .mem (.ar 1 (p0.toList.map eU64))), (n5, .mem (.ar 1 (p1.toList.map eU64)))]) ⟨⟨_, rfl, rfl⟩, Sub.refl _⟩ ⟨rfl, trivial⟩ (Sub.refl _)
              · refine AO.weak (ρ' := [(47, (eBool true))]) (H' := [(n4, .mem (.ar 1 (p0.toList.map eU64))), (n5, .mem (.ar 1 (p1.toList.map eU64)))]) ⟨rfl, trivial⟩ (Sub.refl _) ?_
                refine AO.skipG 27 true 47 rfl rfl rfl 53 rfl (by decide) ?_
                exact AO.nilE (ρ' := [(53, (.fl undef))]) (H' := [(n4, .mem (.ar 1 (p0.toList.map eU64))), (n5, .mem (.ar 1 (p1.toList.map eU64)))]) ⟨⟨_, rfl, rfl⟩, Sub.refl _⟩ ⟨rfl, trivial⟩ (Sub.refl _)
              · refine AO.weak (ρ' := [(47, (eBool true))]) (H' := [(n4, .mem (.ar 1 (p0.toList.map eU64))), (n5, .mem (.ar 1 (p1.toList.map eU64)))]) ⟨rfl, trivial⟩ (Sub.refl _) ?_
                refine AO.skipG 27 true 47 rfl rfl rfl 54 rfl (by decide) ?_
                exact AO.nilE (ρ' := [(54, (.fl undef))]) (H' := [(n4, .mem (.ar 1 (p0.toList.map eU64))), (n5, .mem (.ar 1 (p1.toList.map eU64)))]) ⟨⟨_, rfl, rfl⟩, Sub.refl _⟩ ⟨rfl, trivial⟩ (Sub.refl _)
              · refine AO.weak (ρ' := [(47, (eBool true))]) (H' := [(n4, .mem (.ar 1 (p0.toList.map eU64))), (n5, .mem (.ar 1 (p1.toList.map eU64)))]) ⟨rfl, trivial⟩ (Sub.refl _) ?_
                refine AO.skipG 27 true 47 rfl rfl rfl 55 rfl (by decide) ?_
                exact AO.nilE (ρ' := [(55, (.fl undef))]) (H' := [(n4, .mem (.ar 1 (p0.toList.map eU64))), (n5, .mem (.ar 1 (p1.toList.map eU64)))]) ⟨⟨_, rfl, rfl⟩, Sub.refl _⟩ ⟨rfl, trivial⟩ (Sub.refl _)
              · refine AO.weak (ρ' := [(47, (eBool true)), (55, (.fl undef))]) (H' := [(n4, .mem (.ar 1 (p0.toList.map eU64))), (n5, .mem (.ar 1 (p1.toList.map eU64)))]) ⟨rfl, rfl, trivial⟩ (Sub.refl _) ?_
                refine AO.calm rfl 56 rfl (by decide) (eBool true) (Calm.pickT rfl rfl rfl) ?_
                exact AO.nilE (ρ' := [(56, (eBool true))]) (H' := [(n4, .mem (.ar 1 (p0.toList.map eU64))), (n5, .mem (.ar 1 (p1.toList.map eU64)))]) ⟨⟨_, rfl, rfl⟩, Sub.refl _⟩ ⟨rfl, trivial⟩ (Sub.refl _)
            · cases hq11
              exact ⟨rfl, rfl, rfl⟩
          · have hq11 := (if_neg hc15).symm.trans hq11
            obtain ⟨t16, et16, hq11⟩ := of_bind hq11
            by_cases hc17 : (t16 != (decide ((t8.length : Int) = (0 : Int)))) = true
            · have hq11 := (if_pos hc17).symm.trans hq11
              refine AW.regAny (by rfl) (by decide +kernel) [(.ar 1 (p0.toList.map eU64)), (.fz 1 (t12.map eU8)), (eStr (strOfNums t12)), (.fz 1 (t8.map eU8)), (eStr (strOfNums t8)), (eBool (decide ((strOfNums t12) ≠ (strOfNums t8)))), (eBool (decide ((strOfNums t12) ≠ (strOfNums t8)))), (.ar 1 (p0.toList.map eU64)), (eI64 t14), (.fz 1 (t8.map eU8)), (eI64 (t8.length : Int)), (eBool (decide (t14 ≠ (t8.length : Int)))), (eBool (decide (t14 ≠ (t8.length : Int)))), (eBool (decide (t14 ≠ (t8.length : Int)))), (.ar 1 (p0.toList.map eU64)), (eBool t16), (.fz 1 (t8.map eU8)), (eI64 (t8.length : Int)), (eBool (decide ((t8.length : Int) = (0 : Int)))), (eBool (t16 != (decide ((t8.length : Int) = (0 : Int))))), (eBool (t16 != (decide ((t8.length : Int) = (0 : Int))))), (eBool (t16 != (decide ((t8.length : Int) = (0 : Int))))), (.fl undef), (.fl undef), (.fl undef), (.fl undef), (eBool true), (eBool true), (.fl undef), (.fl undef), (.fl undef), (.fl undef), (.fl undef), (.fl undef), (.fl undef), (.fl undef), (eBool true)] [(2, (eU8 p2)), (3, (.ptr n4 0)), (4, (.ptr n5 0)), (7, (.fz 1 (t8.map eU8))), (8, (eI64 x9))] ⟨rfl, rfl, rfl, rfl, rfl, trivial⟩ rfl ?_ [(3, (.ptr n4 0)), (4, (.ptr n5 0)), (56, (eBool true))] [(n4, .mem (.ar 1 (p0.toList.map eU64))), (n5, .mem (.ar 1 (p1.toList.map eU64)))] ⟨rfl, rfl, rfl, trivial⟩ (Sub.refl _) ?_
              · refine ⟨?_, ?_, ?_, ?_, ?_, ?_, ?_, ?_, ?_, ?_, ?_, ?_, ?_, ?_, ?_, ?_, ?_, ?_, ?_, ?_, ?_, ?_, ?_, ?_, ?_, ?_, ?_, ?_, ?_, ?_, ?_, ?_, ?_, ?_, ?_, ?_, ?_, trivial⟩
                · refine AO.weak (ρ' := [(3, (.ptr n4 0))]) (H' := [(n4, .mem (.ar 1 (p0.toList.map eU64))), (n5, .mem (.ar 1 (p1.toList.map eU64)))]) ⟨rfl, trivial⟩ (Sub.refl _) ?_
                  refine AO.calm rfl 20 rfl (by decide) (.ar 1 (p0.toList.map eU64)) (Calm.load 0 rfl rfl rfl (At.cast At.here rfl) ag27 (by rw [sz27]; simp [AV.size])) ?_
                  exact AO.nilE (ρ' := [(20, (.ar 1 (p0.toList.map eU64)))]) (H' := [(n4, .mem (.ar 1 (p0.toList.map eU64))), (n5, .mem (.ar 1 (p1.toList.map eU64)))]) ⟨⟨_, rfl, rfl⟩, Sub.refl _⟩ ⟨rfl, trivial⟩ (Sub.refl _)
                · refine AO.weak (ρ' := [(20, (.ar 1 (p0.toList.map eU64)))]) (H' := [(n4, .mem (.ar 1 (p0.toList.map eU64))), (n5, .mem (.ar 1 (p1.toList.map eU64)))]) ⟨rfl, trivial⟩ (Sub.refl _) ?_
                  refine AO.callS [(.ar 1 (p0.toList.map eU64))] (.fz 1 (t12.map eU8)) 21 rfl (by decide) ok17 rfl rfl rfl ⟨rfl, rfl, trivial⟩ (byteset_List_spec et12) ?_
                  exact AO.nilE (ρ' := [(21, (.fz 1 (t12.map eU8)))]) (H' := [(n4, .mem (.ar 1 (p0.toList.map eU64))), (n5, .mem (.ar 1 (p1.toList.map eU64)))]) ⟨⟨_, rfl, rfl⟩, Sub.refl _⟩ ⟨rfl, trivial⟩ (Sub.refl _)
                · refine AO.weak (ρ' := [(21, (.fz 1 (t12.map eU8)))]) (H' := [(n4, .mem (.ar 1 (p0.toList.map eU64))), (n5, .mem (.ar 1 (p1.toList.map eU64)))]) ⟨rfl, trivial⟩ (Sub.refl _) ?_
                  refine AO.calm rfl 22 rfl (by decide) (eStr (strOfNums t12)) (Calm.strL rfl rfl Tryd.underlying22 Tryd.underlying9 Tryd.underlying5) ?_
                  exact AO.nilE (ρ' := [(22, (eStr (strOfNums t12)))]) (H' := [(n4, .mem (.ar 1 (p0.toList.map eU64))), (n5, .mem (.ar 1 (p1.toList.map eU64)))]) ⟨⟨_, rfl, rfl⟩, Sub.refl _⟩ ⟨rfl, trivial⟩ (Sub.refl _)
                · refine AO.weak (ρ' := [(7, (.fz 1 (t8.map eU8)))]) (H' := [(n4, .mem (.ar 1 (p0.toList.map eU64))), (n5, .mem (.ar 1 (p1.toList.map eU64)))]) ⟨rfl, trivial⟩ (Sub.refl _) ?_
                  refine AO.calm rfl 23 rfl (by decide) (.fz 1 (t8.map eU8)) (Calm.move rfl rfl) ?_
                  exact AO.nilE (ρ' := [(23, (.fz 1 (t8.map eU8)))]) (H' := [(n4, .mem (.ar 1 (p0.toList.map eU64))), (n5, .mem (.ar 1 (p1.toList.map eU64)))]) ⟨⟨_, rfl, rfl⟩, Sub.refl _⟩ ⟨rfl, trivial⟩ (Sub.refl _)
                · refine AO.weak (ρ' := [(23, (.fz 1 (t8.map eU8)))]) (H' := [(n4, .mem (.ar 1 (p0.toList.map eU64))), (n5, .mem (.ar 1 (p1.toList.map eU64)))]) ⟨rfl, trivial⟩ (Sub.refl _) ?_
                  refine AO.calm rfl 24 rfl (by decide) (eStr (strOfNums t8)) (Calm.strL rfl rfl Tryd.underlying22 Tryd.underlying9 Tryd.underlying5) ?_
                  exact AO.nilE (ρ' := [(24, (eStr (strOfNums t8)))]) (H' := [(n4, .mem (.ar 1 (p0.toList.map eU64))), (n5, .mem (.ar 1 (p1.toList.map eU64)))]) ⟨⟨_, rfl, rfl⟩, Sub.refl _⟩ ⟨rfl, trivial⟩ (Sub.refl _)
                · refine AO.weak (ρ' := [(22, (eStr (strOfNums t12))), (24, (eStr (strOfNums t8)))]) (H' := [(n4, .mem (.ar 1 (p0.toList.map eU64))), (n5, .mem (.ar 1 (p1.toList.map eU64)))]) ⟨rfl, rfl, trivial⟩ (Sub.refl _) ?_
                  refine AO.calm rfl 25 rfl (by decide) (eBool (decide ((strOfNums t12) ≠ (strOfNums t8)))) (Calm.str rfl rfl rfl rfl) ?_
                  exact AO.nilE (ρ' := [(25, (eBool (decide ((strOfNums t12) ≠ (strOfNums t8)))))]) (H' := [(n4, .mem (.ar 1 (p0.toList.map eU64))), (n5, .mem (.ar 1 (p1.toList.map eU64)))]) ⟨⟨_, rfl, rfl⟩, Sub.refl _⟩ ⟨rfl, trivial⟩ (Sub.refl _)
                · refine AO.weak (ρ' := [(25, (eBool (decide ((strOfNums t12) ≠ (strOfNums t8)))))]) (H' := [(n4, .mem (.ar 1 (p0.toList.map eU64))), (n5, .mem (.ar 1 (p1.toList.map eU64)))]) ⟨rfl, trivial⟩ (Sub.refl _) ?_
                  refine AO.calm rfl 26 rfl (by decide) (eBool (decide ((strOfNums t12) ≠ (strOfNums t8)))) (Calm.move rfl rfl) ?_
                  exact AO.nilE (ρ' := [(26, (eBool (decide ((strOfNums t12) ≠ (strOfNums t8)))))]) (H' := [(n4, .mem (.ar 1 (p0.toList.map eU64))), (n5, .mem (.ar 1 (p1.toList.map eU64)))]) ⟨⟨_, rfl, rfl⟩, Sub.refl _⟩ ⟨rfl, trivial⟩ (Sub.refl _)
                · refine AO.weak (ρ' := [(3, (.ptr n4 0)), (26, (eBool (decide ((strOfNums t12) ≠ (strOfNums t8)))))]) (H' := [(n4, .mem (.ar 1 (p0.toList.map eU64))), (n5, .mem (.ar 1 (p1.toList.map eU64)))]) ⟨rfl, rfl, trivial⟩ (Sub.refl _) ?_
                  refine AO.calmG 6 false 26 rfl rfl (congrArg (fun b => some (AV.fl (Value.bool b))) (decide_eq_false hc13)) 27 rfl (by decide) (.ar 1 (p0.toList.map eU64)) (Calm.load 0 rfl rfl rfl (At.cast At.here rfl) ag27 (by rw [sz27]; simp [AV.size])) ?_
                  exact AO.nilE (ρ' := [(27, (.ar 1 (p0.toList.map eU64)))]) (H' := [(n4, .mem (.ar 1 (p0.toList.map eU64))), (n5, .mem (.ar 1 (p1.toList.map eU64)))]) ⟨⟨_, rfl, rfl⟩, Sub.refl _⟩ ⟨rfl, trivial⟩ (Sub.refl _)
                · refine AO.weak (ρ' := [(26, (eBool (decide ((strOfNums t12) ≠ (strOfNums t8))))), (27, (.ar 1 (p0.toList.map eU64)))]) (H' := [(n4, .mem (.ar 1 (p0.toList.map eU64))), (n5, .mem (.ar 1 (p1.toList.map eU64)))]) ⟨rfl, rfl, trivial⟩ (Sub.refl _) ?_
                  refine AO.callG 6 false 26 [(.ar 1 (p0.toList.map eU64))] (eI64 t14) 28 rfl (by decide) ok18 rfl rfl (congrArg (fun b => some (AV.fl (Value.bool b))) (decide_eq_false hc13)) rfl rfl ⟨rfl, rfl, trivial⟩ (byteset_Len_spec et14) ?_
                  exact AO.nilE (ρ' := [(28, (eI64 t14))]) (H' := [(n4, .mem (.ar 1 (p0.toList.map eU64))), (n5, .mem (.ar 1 (p1.toList.map eU64)))]) ⟨⟨_, rfl, rfl⟩, Sub.refl _⟩ ⟨rfl, trivial⟩ (Sub.refl _)
                · refine AO.weak (ρ' := [(7, (.fz 1 (t8.map eU8))), (26, (eBool (decide ((strOfNums t12) ≠ (strOfNums t8)))))]) (H' := [(n4, .mem (.ar 1 (p0.toList.map eU64))), (n5, .mem (.ar 1 (p1.toList.map eU64)))]) ⟨rfl, rfl, trivial⟩ (Sub.refl _) ?_
                  refine AO.calmG 6 false 26 rfl rfl (congrArg (fun b => some (AV.fl (Value.bool b))) (decide_eq_false hc13)) 29 rfl (by decide) (.fz 1 (t8.map eU8)) (Calm.move rfl rfl) ?_
                  exact AO.nilE (ρ' := [(29, (.fz 1 (t8.map eU8)))]) (H' := [(n4, .mem (.ar 1 (p0.toList.map eU64))), (n5, .mem (.ar 1 (p1.toList.map eU64)))]) ⟨⟨_, rfl, rfl⟩, Sub.refl _⟩ ⟨rfl, trivial⟩ (Sub.refl _)
                · refine AO.weak (ρ' := [(26, (eBool (decide ((strOfNums t12) ≠ (strOfNums t8))))), (29, (.fz 1 (t8.map eU8)))]) (H' := [(n4, .mem (.ar 1 (p0.toList.map eU64))), (n5, .mem (.ar 1 (p1.toList.map eU64)))]) ⟨rfl, rfl, trivial⟩ (Sub.refl _) ?_
                  refine AO.calmG 6 false 26 rfl rfl (congrArg (fun b => some (AV.fl (Value.bool b))) (decide_eq_false hc13)) 30 rfl (by decide) (eI64 (t8.length : Int)) (Calm.lenL rfl rfl Tryd.underlying22) ?_
                  exact AO.nilE (ρ' := [(30, (eI64 (t8.length : Int)))]) (H' := [(n4, .mem (.ar 1 (p0.toList.map eU64))), (n5, .mem (.ar 1 (p1.toList.map eU64)))]) ⟨⟨_, rfl, rfl⟩, Sub.refl _⟩ ⟨rfl, trivial⟩ (Sub.refl _)
                · refine AO.weak (ρ' := [(26, (eBool (decide ((strOfNums t12) ≠ (strOfNums t8))))), (28, (eI64 t14)), (30, (eI64 (t8.length : Int)))]) (H' := [(n4, .mem (.ar 1 (p0.toList.map eU64))), (n5, .mem (.ar 1 (p1.toList.map eU64)))]) ⟨rfl, rfl, rfl, trivial⟩ (Sub.refl _) ?_
                  refine AO.calmG 6 false 26 rfl rfl (congrArg (fun b => some (AV.fl (Value.bool b))) (decide_eq_false hc13)) 31 rfl (by decide) (eBool (decide (t14 ≠ (t8.length : Int)))) (Calm.int rfl rfl rfl rfl) ?_
                  exact AO.nilE (ρ' := [(31, (eBool (decide (t14 ≠ (t8.length : Int)))))]) (H' := [(n4, .mem (.ar 1 (p0.toList.map eU64))), (n5, .mem (.ar 1 (p1.toList.map eU64)))]) ⟨⟨_, rfl, rfl⟩, Sub.refl _⟩ ⟨rfl, trivial⟩ (Sub.refl _)
                · refine AO.weak (ρ' := [(26, (eBool (decide ((strOfNums t12) ≠ (strOfNums t8))))), (31, (eBool (decide (t14 ≠ (t8.length : Int)))))]) (H' := [(n4, .mem (.ar 1 (p0.toList.map eU64))), (n5, .mem (.ar 1 (p1.toList.map eU64)))]) ⟨rfl, rfl, trivial⟩ (Sub.refl _) ?_
                  refine AO.calm rfl 32 rfl (by decide) (eBool (decide (t14 ≠ (t8.length : Int)))) (Calm.pickF rfl (congrArg (fun b => some (AV.fl (Value.bool b))) (decide_eq_false hc13)) rfl) ?_
                  exact AO.nilE (ρ' := [(32, (eBool (decide (t14 ≠ (t8.length : Int)))))]) (H' := [(n4, .mem (.ar 1 (p0.toList.map eU64))), (n5, .mem (.ar 1 (p1.toList.map eU64)))]) ⟨⟨_, rfl, rfl⟩, Sub.refl _⟩ ⟨rfl, trivial⟩ (Sub.refl _)
                · refine AO.weak (ρ' := [(32, (eBool (decide (t14 ≠ (t8.length : Int)))))]) (H' := [(n4, .mem (.ar 1 (p0.toList.map eU64))), (n5, .mem (.ar 1 (p1.toList.map eU64)))]) ⟨rfl, trivial⟩ (Sub.refl _) ?_
                  refine AO.calm rfl 33 rfl (by decide) (eBool (decide (t14 ≠ (t8.length : Int)))) (Calm.move rfl rfl) ?_
                  exact AO.nilE (ρ' := [(33, (eBool (decide (t14 ≠ (t8.length : Int)))))]) (H' := [(n4, .mem (.ar 1 (p0.toList.map eU64))), (n5, .mem (.ar 1 (p1.toList.map eU64)))]) ⟨⟨_, rfl, rfl⟩, Sub.refl _⟩ ⟨rfl, trivial⟩ (Sub.refl _)
                · refine AO.weak (ρ' := [(3, (.ptr n4 0)), (33, (eBool (decide (t14 ≠ (t8.length : Int)))))]) (H' := [(n4, .mem (.ar 1 (p0.toList.map eU64))), (n5, .mem (.ar 1 (p1.toList.map eU64)))]) ⟨rfl, rfl, trivial⟩ (Sub.refl _) ?_
                  refine AO.calmG 13 false 33 rfl rfl (congrArg (fun b => some (AV.fl (Value.bool b))) (decide_eq_false hc15)) 34 rfl (by decide) (.ar 1 (p0.toList.map eU64)) (Calm.load 0 rfl rfl rfl (At.cast At.here rfl) ag27 (by rw [sz27]; simp [AV.size])) ?_
                  exact AO.nilE (ρ' := [(34, (.ar 1 (p0.toList.map eU64)))]) (H' := [(n4, .mem (.ar 1 (p0.toList.map eU64))), (n5, .mem (.ar 1 (p1.toList.map eU64)))]) ⟨⟨_, rfl, rfl⟩, Sub.refl _⟩ ⟨rfl, trivial⟩ (Sub.refl _)
                · refine AO.weak (ρ' := [(33, (eBool (decide (t14 ≠ (t8.length : Int))))), (34, (.ar 1 (p0.toList.map eU64)))]) (H' := [(n4, .mem (.ar 1 (p0.toList.map eU64))), (n5, .mem (.ar 1 (p1.toList.map eU64)))]) ⟨rfl, rfl, trivial⟩ (Sub.refl _) ?_
                  refine AO.callG 13 false 33 [(.ar 1 (p0.toList.map eU64))] (eBool t16) 35 rfl (by decide) ok19 rfl rfl (congrArg (fun b => some (AV.fl (Value.bool b))) (decide_eq_false hc15)) rfl rfl ⟨rfl, rfl, trivial⟩ (byteset_Empty_spec et16) ?_
                  exact AO.nilE (ρ' := [(35, (eBool t16))]) (H' := [(n4, .mem (.ar 1 (p0.toList.map eU64))), (n5, .mem (.ar 1 (p1.toList.map eU64)))]) ⟨⟨_, rfl, rfl⟩, Sub.refl _⟩ ⟨rfl, trivial⟩ (Sub.refl _)
                · refine AO.weak (ρ' := [(7, (.fz 1 (t8.map eU8))), (33, (eBool (decide (t14 ≠ (t8.length : Int)))))]) (H' := [(n4, .mem (.ar 1 (p0.toList.map eU64))), (n5, .mem (.ar 1 (p1.toList.map eU64)))]) ⟨rfl, rfl, trivial⟩ (Sub.refl _) ?_
                  refine AO.calmG 13 false 33 rfl rfl (congrArg (fun b => some (AV.fl (Value.bool b))) (decide_eq_false hc15)) 36 rfl (by decide) (.fz 1 (t8.map eU8)) (Calm.move rfl rfl) ?_
                  exact AO.nilE (ρ' := [(36, (.fz 1 (t8.map eU8)))]) (H' := [(n4, .mem (.ar 1 (p0.toList.map eU64))), (n5, .mem (.ar 1 (p1.toList.map eU64)))]) ⟨⟨_, rfl, rfl⟩, Sub.refl _⟩ ⟨rfl, trivial⟩ (Sub.refl _)
                · refine AO.weak (ρ' := [(33, (eBool (decide (t14 ≠ (t8.length : Int))))), (36, (.fz 1 (t8.map eU8)))]) (H' := [(n4, .mem (.ar 1 (p0.toList.map eU64))), (n5, .mem (.ar 1 (p1.toList.map eU64)))]) ⟨rfl, rfl, trivial⟩ (Sub.refl _) ?_
                  refine AO.calmG 13 false 33 rfl rfl (congrArg (fun b => some (AV.fl (Value.bool b))) (decide_eq_false hc15)) 37 rfl (by decide) (eI64 (t8.length : Int)) (Calm.lenL rfl rfl Tryd.underlying22) ?_
                  exact AO.nilE (ρ' := [(37, (eI64 (t8.length : Int)))]) (H' := [(n4, .mem (.ar 1 (p0.toList.map eU64))), (n5, .mem (.ar 1 (p1.toList.map eU64)))]) ⟨⟨_, rfl, rfl⟩, Sub.refl _⟩ ⟨rfl, trivial⟩ (Sub.refl _)
                · refine AO.weak (ρ' := [(33, (eBool (decide (t14 ≠ (t8.length : Int))))), (37, (eI64 (t8.length : Int)))]) (H' := [(n4, .mem (.ar 1 (p0.toList.map eU64))), (n5, .mem (.ar 1 (p1.toList.map eU64)))]) ⟨rfl, rfl, trivial⟩ (Sub.refl _) ?_
                  refine AO.calmG 13 false 33 rfl rfl (congrArg (fun b => some (AV.fl (Value.bool b))) (decide_eq_false hc15)) 38 rfl (by decide) (eBool (decide ((t8.length : Int) = (0 : Int)))) (Calm.int rfl rfl rfl rfl) ?_
                  exact AO.nilE (ρ' := [(38, (eBool (decide ((t8.length : Int) = (0 : Int)))))]) (H' := [(n4, .mem (.ar 1 (p0.toList.map eU64))), (n5, .mem (.ar 1 (p1.toList.map eU64)))]) ⟨⟨_, rfl, rfl⟩, Sub.refl _⟩ ⟨rfl, trivial⟩ (Sub.refl _)
                · refine AO.weak (ρ' := [(33, (eBool (decide (t14 ≠ (t8.length : Int))))), (35, (eBool t16)), (38, (eBool (decide ((t8.length : Int) = (0 : Int)))))]) (H' := [(n4, .mem (.ar 1 (p0.toList.map eU64))), (n5, .mem (.ar 1 (p1.toList.map eU64)))]) ⟨rfl, rfl, rfl, trivial⟩ (Sub.refl _) ?_
                  refine AO.calmG 13 false 33 rfl rfl (congrArg (fun b => some (AV.fl (Value.bool b))) (decide_eq_false hc15)) 39 rfl (by decide) (eBool (t16 != (decide ((t8.length : Int) = (0 : Int))))) (Calm.boolNe rfl rfl rfl Tryd.underlying4) ?_
                  exact AO.nilE (ρ' := [(39, (eBool (t16 != (decide ((t8.length : Int) = (0 : Int))))))]) (H' := [(n4, .mem (.ar 1 (p0.toList.map eU64))), (n5, .mem (.ar 1 (p1.toList.map eU64)))]) ⟨⟨_, rfl, rfl⟩, Sub.refl _⟩ ⟨rfl, trivial⟩ (Sub.refl _)
                · refine AO.weak (ρ' := [(33, (eBool (decide (t14 ≠ (t8.length : Int))))), (39, (eBool (t16 != (decide ((t8.length : Int) = (0 : Int))))))]) (H' := [(n4, .mem (.ar 1 (p0.toList.map eU64))), (n5, .mem (.ar 1 (p1.toList.map eU64)))]) ⟨rfl, rfl, trivial⟩ (Sub.refl _) ?_
                  refine AO.calm rfl 40 rfl (by decide) (eBool (t16 != (decide ((t8.length : Int) = (0 : Int))))) (Calm.pickF rfl (congrArg (fun b => some (AV.fl (Value.bool b))) (decide_eq_false hc15)) rfl) ?_
                  exact AO.nilE (ρ' := [(40, (eBool (t16 != (decide ((t8.length : Int) = (0 : Int))))))]) (H' := [(n4, .mem (.ar 1 (p0.toList.map eU64))), (n5, .mem (.ar 1 (p1.toList.map eU64)))]) ⟨⟨_, rfl, rfl⟩, Sub.refl _⟩ ⟨rfl, trivial⟩ (Sub.refl _)
                · refine AO.weak (ρ' := [(40, (eBool (t16 != (decide ((t8.length : Int) = (0 : Int))))))]) (H' := [(n4, .mem (.ar 1 (p0.toList.map eU64))), (n5, .mem (.ar 1 (p1.toList.map eU64)))]) ⟨rfl, trivial⟩ (Sub.refl _) ?_
                  refine AO.calm rfl 41 rfl (by decide) (eBool (t16 != (decide ((t8.length : Int) = (0 : Int))))) (Calm.move rfl rfl) ?_
                  exact AO.nilE (ρ' := [(41, (eBool (t16 != (decide ((t8.length : Int) = (0 : Int))))))]) (H' := [(n4, .mem (.ar 1 (p0.toList.map eU64))), (n5, .mem (.ar 1 (p1.toList.map eU64)))]) ⟨⟨_, rfl, rfl⟩, Sub.refl _⟩ ⟨rfl, trivial⟩ (Sub.refl _)
                · refine AO.weak (ρ' := [(41, (eBool (t16 != (decide ((t8.length : Int) = (0 : Int))))))]) (H' := [(n4, .mem (.ar 1 (p0.toList.map eU64))), (n5, .mem (.ar 1 (p1.toList.map eU64)))]) ⟨rfl, trivial⟩ (Sub.refl _) ?_
                  refine AO.skipG 21 true 41 rfl rfl (congrArg (fun b => some (AV.fl (Value.bool b))) hc17) 42 rfl (by decide) ?_
                  exact AO.nilE (ρ' := [(42, (.fl undef))]) (H' := [(n4, .mem (.ar 1 (p0.toList.map eU64))), (n5, .mem (.ar 1 (p1.toList.map eU64)))]) ⟨⟨_, rfl, rfl⟩, Sub.refl _⟩ ⟨rfl, trivial⟩ (Sub.refl _)
                · refine AO.weak (ρ' := [(41, (eBool (t16 != (decide ((t8.length : Int) = (0 : Int))))))]) (H' := [(n4, .mem (.ar 1 (p0.toList.map eU64))), (n5, .mem (.ar 1 (p1.toList.map eU64)))]) ⟨rfl, trivial⟩ (Sub.refl _) ?_
                  refine AO.skipG 21 true 41 rfl rfl (congrArg (fun b => some (AV.fl (Value.bool b))) hc17) 43 rfl (by decide) ?_
                  exact AO.nilE (ρ' := [(43, (.fl undef))]) (H' := [(n4, .mem (.ar 1 (p0.toList.map eU64))), (n5, .mem (.ar 1 (p1.toList.map eU64)))]) ⟨⟨_, rfl, rfl⟩, Sub.refl _⟩ ⟨rfl, trivial⟩ (Sub.refl _)
                · refine AO.weak (ρ' := [(41, (eBool (t16 != (decide ((t8.length : Int) = (0 : Int))))))]) (H' := [(n4, .mem (.ar 1 (p0.toList.map eU64))), (n5, .mem (.ar 1 (p1.toList.map eU64)))]) ⟨rfl, trivial⟩ (Sub.refl _) ?_
                  refine AO.skipG 21 true 41 rfl rfl (congrArg (fun b => some (AV.fl (Value.bool b))) hc17) 44 rfl (by decide) ?_
                  exact AO.nilE (ρ' := [(44, (.fl undef))]) (H' := [(n4, .mem (.ar 1 (p0.toList.map eU64))), (n5, .mem (.ar 1 (p1.toList.map eU64)))]) ⟨⟨_, rfl, rfl⟩, Sub.refl _⟩ ⟨rfl, trivial⟩ (Sub.refl _)
                · refine AO.weak (ρ' := [(41, (eBool (t16 != (decide ((t8.length : Int) = (0 : Int))))))]) (H' := [(n4, .mem (.ar 1 (p0.toList.map eU64))), (n5, .mem (.ar 1 (p1.toList.map eU64)))]) ⟨rfl, trivial⟩ (Sub.refl _) ?_
                  refine AO.skipG 21 true 41 rfl rfl (congrArg (fun b => some (AV.fl (Value.bool b))) hc17) 45 rfl (by decide) ?_
                  exact AO.nilE (ρ' := [(45, (.fl undef))]) (H' := [(n4, .mem (.ar 1 (p0.toList.map eU64))), (n5, .mem (.ar 1 (p1.toList.map eU64)))]) ⟨⟨_, rfl, rfl⟩, Sub.refl _⟩ ⟨rfl, trivial⟩ (Sub.refl _)
                · refine AO.weak (ρ' := [(41, (eBool (t16 != (decide ((t8.length : Int) = (0 : Int)))))), (45, (.fl undef))]) (H' := [(n4, .mem (.ar 1 (p0.toList.map eU64))), (n5, .mem (.ar 1 (p1.toList.map eU64)))]) ⟨rfl, rfl, trivial⟩ (Sub.refl _) ?_
                  refine AO.calm rfl 46 rfl (by decide) (eBool true) (Calm.pickT rfl (congrArg (fun b => some (AV.fl (Value.bool b))) hc17) rfl) ?_
                  exact AO.nilE (ρ' := [(46, (eBool true))]) (H' := [(n4, .mem (.ar 1 (p0.toList.map eU64))), (n5, .mem (.ar 1 (p1.toList.map eU64)))]) ⟨⟨_, rfl, rfl⟩, Sub.refl _⟩ ⟨rfl, trivial⟩ (Sub.refl _)
                · refine AO.weak (ρ' := [(46, (eBool true))]) (H' := [(n4, .mem (.ar 1 (p0.toList.map eU64))), (n5, .mem (.ar 1 (p1.toList.map eU64)))]) ⟨rfl, trivial⟩ (Sub.refl _) ?_
                  refine AO.calm rfl 47 rfl (by decide) (eBool true) (Calm.move rfl rfl) ?_
                  exact AO.nilE (ρ' := [(47, (eBool true))]) (H' := [(n4, .mem (.ar 1 (p0.toList.map eU64))), (n5, .mem (.ar 1 (p1.toList.map eU64)))]) ⟨⟨_, rfl, rfl⟩, Sub.refl _⟩ ⟨rfl, trivial⟩ (Sub.refl _)
                · refine AO.weak (ρ' := [(47, (eBool true))]) (H' := [(n4, .mem (.ar 1 (p0.toList.map eU64))), (n5, .mem (.ar 1 (p1.toList.map eU64)))]) ⟨rfl, trivial⟩ (Sub.refl _) ?_
                  refine AO.skipG 27 true 47 rfl rfl rfl 48 rfl (by decide) ?_
                  exact AO.nilE (ρ' := [(48, (.fl undef))]) (H' := [(n4, .mem (.ar 1 (p0.toList.map eU64))), (n5, .mem (.ar 1 (p1.toList.map eU64)))]) ⟨⟨_, rfl, rfl⟩, Sub.refl _⟩ ⟨rfl, trivial⟩ (Sub.refl _)
                · refine AO.weak (ρ' := [(47, (eBool true))]) (H' := [(n4, .mem (.ar 1 (p0.toList.map eU64))), (n5, .mem (.ar 1 (p1.toList.map eU64)))]) ⟨rfl, trivial⟩ (Sub.refl _) ?_
                  refine AO.skipG 27 true 47 rfl rfl rfl 49 rfl (by decide) ?_
                  exact AO.nilE (ρ' := [(49, (.fl undef))]) (H' := [(n4, .mem (.ar 1 (p0.toList.map eU64))), (n5, .mem (.ar 1 (p1.toList.map eU64)))]) ⟨⟨_, rfl, rfl⟩, Sub.refl _⟩ ⟨rfl, trivial⟩ (Sub.refl _)
                · refine AO.weak (ρ' := [(47, (eBool true))]) (H' := [(n4, .mem (.ar 1 (p0.toList.map eU64))), (n5, .mem (.ar 1 (p1.toList.map eU64)))]) ⟨rfl, trivial⟩ (Sub.refl _) ?_
                  refine AO.skipG 27 true 47 rfl rfl rfl 50 rfl (by decide) ?_
                  exact AO.nilE (ρ' := [(50, (.fl undef))]) (H' := [(n4, .mem (.ar 1 (p0.toList.map eU64))), (n5, .mem (.ar 1 (p1.toList.map eU64)))]) ⟨⟨_, rfl, rfl⟩, Sub.refl _⟩ ⟨rfl, trivial⟩ (Sub.refl _)
                · refine AO.weak (ρ' := [(47, (eBool true))]) (H' := [(n4, .mem (.ar 1 (p0.toList.map eU64))), (n5, .mem (.ar 1 (p1.toList.map eU64)))]) ⟨rfl, trivial⟩ (Sub.refl _) ?_
                  refine AO.skipG 27 true 47 rfl rfl rfl 51 rfl (by decide) ?_
                  exact AO.nilE (ρ' := [(51, (.fl undef))]) (H' := [(n4, .mem (.ar 1 (p0.toList.map eU64))), (n5, .mem (.ar 1 (p1.toList.map eU64)))]) ⟨⟨_, rfl, rfl⟩, Sub.refl _⟩ ⟨rfl, trivial⟩ (Sub.refl _)
                · refine AO.weak (ρ' := [(47, (eBool true))]) (H' := [(n4, .mem (.ar 1 (p0.toList.map eU64))), (n5, .mem (.ar 1 (p1.toList.map eU64)))]) ⟨rfl, trivial⟩ (Sub.refl _) ?_
                  refine AO.skipG 27 true 47 rfl rfl rfl 52 rfl (by decide) ?_
                  exact AO.nilE (ρ' := [(52, (.fl undef))]) (H' := [(n4, .mem (.ar 1 (p0.toList.map eU64))), (n5, .mem (.ar 1 (p1.toList.map eU64)))]) ⟨⟨_, rfl, rfl⟩, Sub.refl _⟩ ⟨rfl, trivial⟩ (Sub.refl _)
                · refine AO.weak (ρ' := [(47, (eBool true))]) (H' := [(n4, .mem (.ar 1 (p0.toList.map eU64))), (n5, .mem (.ar 1 (p1.toList.map eU64)))]) ⟨rfl, trivial⟩ (Sub.refl _) ?_
                  refine AO.skipG 27 true 47 rfl rfl rfl 53 rfl (by decide) ?_
                  exact AO.nilE (ρ' := [(53, (.fl undef))]) (H' := [(n4, .mem (.ar 1 (p0.toList.map eU64))), (n5, .mem (.ar 1 (p1.toList.map eU64)))]) ⟨⟨_, rfl, rfl⟩, Sub.refl _⟩ ⟨rfl, trivial⟩ (Sub.refl _)
                · refine AO.weak (ρ' := [(47, (eBool true))]) (H' := [(n4, .mem (.ar 1 (p0.toList.map eU64))), (n5, .mem (.ar 1 (p1.toList.map eU64)))]) ⟨rfl, trivial⟩ (Sub.refl _) ?_
                  refine AO.skipG 27 true 47 rfl rfl rfl 54 rfl (by decide) ?_
                  exact AO.nilE (ρ' := [(54, (.fl undef))]) (H' := [(n4, .mem (.ar 1 (p0.toList.map eU64))), (n5, .mem (.ar 1 (p1.toList.map eU64)))]) ⟨⟨_, rfl, rfl⟩, Sub.refl _⟩ ⟨rfl, trivial⟩ (Sub.refl _)
                · refine AO.weak (ρ' := [(47, (eBool true))]) (H' := [(n4, .mem (.ar 1 (p0.toList.map eU64))), (n5, .mem (.ar 1 (p1.toList.map eU64)))]) ⟨rfl, trivial⟩ (Sub.refl _) ?_
                  refine AO.skipG 27 true 47 rfl rfl rfl 55 rfl (by decide) ?_
                  exact AO.nilE (ρ' := [(55, (.fl undef))]) (H' := [(n4, .mem (.ar 1 (p0.toList.map eU64))), (n5, .mem (.ar 1 (p1.toList.map eU64)))]) ⟨⟨_, rfl, rfl⟩, Sub.refl _⟩ ⟨rfl, trivial⟩ (Sub.refl _)
                · refine AO.weak (ρ' := [(47, (eBool true)), (55, (.fl undef))]) (H' := [(n4, .mem (.ar 1 (p0.toList.map eU64))), (n5, .mem (.ar 1 (p1.toList.map eU64)))]) ⟨rfl, rfl, trivial⟩ (Sub.refl _) ?_
                  refine AO.calm rfl 56 rfl (by decide) (eBool true) (Calm.pickT rfl rfl rfl) ?_
                  exact AO.nilE (ρ' := [(56, (eBool true))]) (H' := [(n4, .mem (.ar 1 (p0.toList.map eU64))), (n5, .mem (.ar 1 (p1.toList.map eU64)))]) ⟨⟨_, rfl, rfl⟩, Sub.refl _⟩ ⟨rfl, trivial⟩ (Sub.refl _)
              · cases hq11
                exact ⟨rfl, rfl, rfl⟩
            · have hq11 := (if_neg hc17).symm.trans hq11
              obtain ⟨t18, et18, hq11⟩ := of_bind hq11
              by_cases hc19 : t18 ≠ x9
              · have hq11 := (if_pos hc19).symm.trans hq11
                refine AW.regAny (by rfl) (by decide +kernel) [(.ar 1 (p0.toList.map eU64)), (.fz 1 (t12.map eU8)), (eStr (strOfNums t12)), (.fz 1 (t8.map eU8)), (eStr (strOfNums t8)), (eBool (decide ((strOfNums t12) ≠ (strOfNums t8)))), (eBool (decide ((strOfNums t12) ≠ (strOfNums t8)))), (.ar 1 (p0.toList.map eU64)), (eI64 t14), (.fz 1 (t8.map eU8)), (eI64 (t8.length : Int)), (eBool (decide (t14 ≠ (t8.length : Int)))), (eBool (decide (t14 ≠ (t8.length : Int)))), (eBool (decide (t14 ≠ (t8.length : Int)))), (.ar 1 (p0.toList.map eU64)), (eBool t16), (.fz 1 (t8.map eU8)), (eI64 (t8.length : Int)), (eBool (decide ((t8.length : Int) = (0 : Int)))), (eBool (t16 != (decide ((t8.length : Int) = (0 : Int))))), (eBool (t16 != (decide ((t8.length : Int) = (0 : Int))))), (eBool (t16 != (decide ((t8.length : Int) = (0 : Int))))), (.ar 1 (p0.toList.map eU64)), (eI64 t18), (eI64 x9), (eBool (decide (t18 ≠ x9))), (eBool (decide (t18 ≠ x9))), (eBool (decide (t18 ≠ x9))), (.fl undef), (.fl undef), (.fl undef), (.fl undef), (.fl undef), (.fl undef), (.fl undef), (.fl undef), (eBool true)] [(2, (eU8 p2)), (3, (.ptr n4 0)), (4, (.ptr n5 0)), (7, (.fz 1 (t8.map eU8))), (8, (eI64 x9))] ⟨rfl, rfl, rfl, rfl, rfl, trivial⟩ rfl ?_ [(3, (.ptr n4 0)), (4, (.ptr n5 0)), (56, (eBool true))] [(n4, .mem (.ar 1 (p0.toList.map eU64))), (n5, .mem (.ar 1 (p1.toList.map eU64)))] ⟨rfl, rfl, rfl, trivial⟩ (Sub.refl _) ?_
                · refine ⟨?_, ?_, ?_, ?_, ?_, ?_, ?_, ?_, ?_, ?_, ?_, ?_, ?_, ?_, ?_, ?_, ?_, ?_, ?_, ?_, ?_, ?_, ?_, ?_, ?_, ?_, ?_, ?_, ?_, ?_, ?_, ?_, ?_, ?_, ?_, ?_, ?_, trivial⟩
                  · refine AO.weak (ρ' := [(3, (.ptr n4 0))]) (H' := [(n4, .mem (.ar 1 (p0.toList.map eU64))), (n5, .mem (.ar 1 (p1.toList.map eU64)))]) ⟨rfl, trivial⟩ (Sub.refl _) ?_
                    refine AO.calm rfl 20 rfl (by decide) (.ar 1 (p0.toList.map eU64)) (Calm.load 0 rfl rfl rfl (At.cast At.here rfl) ag27 (by rw [sz27]; simp [AV.size])) ?_
                    exact AO.nilE (ρ' := [(20, (.ar 1 (p0.toList.map eU64)))]) (H' := [(n4, .mem (.ar 1 (p0.toList.map eU64))), (n5, .mem (.ar 1 (p1.toList.map eU64)))]) ⟨⟨_, rfl, rfl⟩, Sub.refl _⟩ ⟨rfl, trivial⟩ (Sub.refl _)
                  · refine AO.weak (ρ' := [(20, (.ar 1 (p0.toList.map eU64)))]) (H' := [(n4, .mem (.ar 1 (p0.toList.map eU64))), (n5, .mem (.ar 1 (p1.toList.map eU64)))]) ⟨rfl, trivial⟩ (Sub.refl _) ?_
                    refine AO.callS [(.ar 1 (p0.toList.map eU64))] (.fz 1 (t12.map eU8)) 21 rfl (by decide) ok17 rfl rfl rfl ⟨rfl, rfl, trivial⟩ (byteset_List_spec et12) ?_
                    exact AO.nilE (ρ' := [(21, (.fz 1 (t12.map eU8)))]) (H' := [(n4, .mem (.ar 1 (p0.toList.map eU64))), (n5, .mem (.ar 1 (p1.toList.map eU64)))]) ⟨⟨_, rfl, rfl⟩, Sub.refl _⟩ ⟨rfl, trivial⟩ (Sub.refl _)
                  · refine AO.weak (ρ' := [(21, (.fz 1 (t12.map eU8)))]) (H' := [(n4, .mem (.ar 1 (p0.toList.map eU64))), (n5, .mem (.ar 1 (p1.toList.map eU64)))]) ⟨rfl, trivial⟩ (Sub.refl _) ?_
                    refine AO.calm rfl 22 rfl (by decide) (eStr (strOfNums t12)) (Calm.strL rfl rfl Tryd.underlying22 Tryd.underlying9 Tryd.underlying5) ?_
                    exact AO.nilE (ρ' := [(22, (eStr (strOfNums t12)))]) (H' := [(n4, .mem (.ar 1 (p0.toList.map eU64))), (n5, .mem (.ar 1 (p1.toList.map eU64)))]) ⟨⟨_, rfl, rfl⟩, Sub.refl _⟩ ⟨rfl, trivial⟩ (Sub.refl _)
                  · refine AO.weak (ρ' := [(7, (.fz 1 (t8.map eU8)))]) (H' := [(n4, .mem (.ar 1 (p0.toList.map eU64))), (n5, .mem (.ar 1 (p1.toList.map eU64)))]) ⟨rfl, trivial⟩ (Sub.refl _) ?_
                    refine AO.calm rfl 23 rfl (by decide) (.fz 1 (t8.map eU8)) (Calm.move rfl rfl) ?_
                    exact AO.nilE (ρ' := [(23, (.fz 1 (t8.map eU8)))]) (H' := [(n4, .mem (.ar 1 (p0.toList.map eU64))), (n5, .mem (.ar 1 (p1.toList.map eU64)))]) ⟨⟨_, rfl, rfl⟩, Sub.refl _⟩ ⟨rfl, trivial⟩ (Sub.refl _)
                  · refine AO.weak (ρ' := [(23, (.fz 1 (t8.map eU8)))]) (H' := [(n4, .mem (.ar 1 (p0.toList.map eU64))), (n5, .mem (.ar 1 (p1.toList.map eU64)))]) ⟨rfl, trivial⟩ (Sub.refl _) ?_
                    refine AO.calm rfl 24 rfl (by decide) (eStr (strOfNums t8)) (Calm.strL rfl rfl Tryd.underlying22 Tryd.underlying9 Tryd.underlying5) ?_
                    exact AO.nilE (ρ' := [(24, (eStr (strOfNums t8)))]) (H' := [(n4, .mem (.ar 1 (p0.toList.map eU64))), (n5, .mem (.ar 1 (p1.toList.map eU64)))]) ⟨⟨_, rfl, rfl⟩, Sub.refl _⟩ ⟨rfl, trivial⟩ (Sub.refl _)
                  · refine AO.weak (ρ' := [(22, (eStr (strOfNums t12))), (24, (eStr (strOfNums t8)))]) (H' := [(n4, .mem (.ar 1 (p0.toList.map eU64))), (n5, .mem (.ar 1 (p1.toList.map eU64)))]) ⟨rfl, rfl, trivial⟩ (Sub.refl _) ?_
                    refine AO.calm rfl 25 rfl (by decide) (eBool (decide ((strOfNums t12) ≠ (strOfNums t8)))) (Calm.str rfl rfl rfl rfl) ?_
                    exact AO.nilE (ρ' := [(25, (eBool (decide ((strOfNums t12) ≠ (strOfNums t8)))))]) (H' := [(n4, .mem (.ar 1 (p0.toList.map eU64))), (n5, .mem (.ar 1 (p1.toList.map eU64)))]) ⟨⟨_, rfl, rfl⟩, Sub.refl _⟩ ⟨rfl, trivial⟩ (Sub.refl _)
                  · refine AO.weak (ρ' := [(25, (eBool (decide ((strOfNums t12) ≠ (strOfNums t8)))))]) (H' := [(n4, .mem (.ar 1 (p0.toList.map eU64))), (n5, .mem (.ar 1 (p1.toList.map eU64)))]) ⟨rfl, trivial⟩ (Sub.refl _) ?_
                    refine AO.calm rfl 26 rfl (by decide) (eBool (decide ((strOfNums t12) ≠ (strOfNums t8)))) (Calm.move rfl rfl) ?_
                    exact AO.nilE (ρ' := [(26, (eBool (decide ((strOfNums t12) ≠ (strOfNums t8)))))]) (H' := [(n4, .mem (.ar 1 (p0.toList.map eU64))), (n5, .mem (.ar 1 (p1.toList.map eU64)))]) ⟨⟨_, rfl, rfl⟩, Sub.refl _⟩ ⟨rfl, trivial⟩ (Sub.refl _)
                  · refine AO.weak (ρ' := [(3, (.ptr n4 0)), (26, (eBool (decide ((strOfNums t12) ≠ (strOfNums t8)))))]) (H' := [(n4, .mem (.ar 1 (p0.toList.map eU64))), (n5, .mem (.ar 1 (p1.toList.map eU64)))]) ⟨rfl, rfl, trivial⟩ (Sub.refl _) ?_
                    refine AO.calmG 6 false 26 rfl rfl (congrArg (fun b => some (AV.fl (Value.bool b))) (decide_eq_false hc13)) 27 rfl (by decide) (.ar 1 (p0.toList.map eU64)) (Calm.load 0 rfl rfl rfl (At.cast At.here rfl) ag27 (by rw [sz27]; simp [AV.size])) ?_
                    exact AO.nilE (ρ' := [(27, (.ar 1 (p0.toList.map eU64)))]) (H' := [(n4, .mem (.ar 1 (p0.toList.map eU64))), (n5, .mem (.ar 1 (p1.toList.map eU64)))]) ⟨⟨_, rfl, rfl⟩, Sub.refl _⟩ ⟨rfl, trivial⟩ (Sub.refl _)
                  · refine AO.weak (ρ' := [(26, (eBool (decide ((strOfNums t12) ≠ (strOfNums t8))))), (27, (.ar 1 (p0.toList.map eU64)))]) (H' := [(n4, .mem (.ar 1 (p0.toList.map eU64))), (n5, .mem (.ar 1 (p1.toList.map eU64)))]) ⟨rfl, rfl, trivial⟩ (Sub.refl _) ?_
                    refine AO.callG 6 false 26 [(.ar 1 (p0.toList.map eU64))] (eI64 t14) 28 rfl (by decide) ok18 rfl rfl (congrArg (fun b => some (AV.fl (Value.bool b))) (decide_eq_false hc13)) rfl rfl ⟨rfl, rfl, trivial⟩ (byteset_Len_spec et14) ?_
                    exact AO.nilE (ρ' := [(28, (eI64 t14))]) (H' := [(n4, .mem (.ar 1 (p0.toList.map eU64))), (n5, .mem (.ar 1 (p1.toList.map eU64)))]) ⟨⟨_, rfl, rfl⟩, Sub.refl _⟩ ⟨rfl, trivial⟩ (Sub.refl _)
                  · refine AO.weak (ρ' := [(7, (.fz 1 (t8.map eU8))), (26, (eBool (decide ((strOfNums t12) ≠ (strOfNums t8)))))]) (H' := [(n4, .mem (.ar 1 (p0.toList.map eU64))), (n5, .mem (.ar 1 (p1.toList.map eU64)))]) ⟨rfl, rfl, trivial⟩ (Sub.refl _) ?_
                    refine AO.calmG 6 false 26 rfl rfl (congrArg (fun b => some (AV.fl (Value.bool b))) (decide_eq_false hc13)) 29 rfl (by decide) (.fz 1 (t8.map eU8)) (Calm.move rfl rfl) ?_
                    exact AO.nilE (ρ' := [(29, (.fz 1 (t8.map eU8)))]) (H' := [(n4, .mem (.ar 1 (p0.toList.map eU64))), (n5, .mem (.ar 1 (p1.toList.map eU64)))]) ⟨⟨_, rfl, rfl⟩, Sub.refl _⟩ ⟨rfl, trivial⟩ (Sub.refl _)
                  · refine AO.weak (ρ' := [(26, (eBool (decide ((strOfNums t12) ≠ (strOfNums t8))))), (29, (.fz 1 (t8.map eU8)))]) (H' := [(n4, .mem (.ar 1 (p0.toList.map eU64))), (n5, .mem (.ar 1 (p1.toList.map eU64)))]) ⟨rfl, rfl, trivial⟩ (Sub.refl _) ?_
                    refine AO.calmG 6 false 26 rfl rfl (congrArg (fun b => some (AV.fl (Value.bool b))) (decide_eq_false hc13)) 30 rfl (by decide) (eI64 (t8.length : Int)) (Calm.lenL rfl rfl Tryd.underlying22) ?_
                    exact AO.nilE (ρ' := [(30, (eI64 (t8.length : Int)))]) (H' := [(n4, .mem (.ar 1 (p0.toList.map eU64))), (n5, .mem (.ar 1 (p1.toList.map eU64)))]) ⟨⟨_, rfl, rfl⟩, Sub.refl _⟩ ⟨rfl, trivial⟩ (Sub.refl _)
                  · refine AO.weak (ρ' := [(26, (eBool (decide ((strOfNums t12) ≠ (strOfNums t8))))), (28, (eI64 t14)), (30, (eI64 (t8.length : Int)))]) (H' := [(n4, .mem (.ar 1 (p0.toList.map eU64))), (n5, .mem (.ar 1 (p1.toList.map eU64)))]) ⟨rfl, rfl, rfl, trivial⟩ (Sub.refl _) ?_
                    refine AO.calmG 6 false 26 rfl rfl (congrArg (fun b => some (AV.fl (Value.bool b))) (decide_eq_false hc13)) 31 rfl (by decide) (eBool (decide (t14 ≠ (t8.length : Int)))) (Calm.int rfl rfl rfl rfl) ?_
                    exact AO.nilE (ρ' := [(31, (eBool (decide (t14 ≠ (t8.length : Int)))))]) (H' := [(n4, .mem (.ar 1 (p0.toList.map eU64))), (n5, .mem (.ar 1 (p1.toList.map eU64)))]) ⟨⟨_, rfl, rfl⟩, Sub.refl _⟩ ⟨rfl, trivial⟩ (Sub.refl _)
                  · refine AO.weak (ρ' := [(26, (eBool (decide ((strOfNums t12) ≠ (strOfNums t8))))), (31, (eBool (decide (t14 ≠ (t8.length : Int)))))]) (H' := [(n4, .mem (.ar 1 (p0.toList.map eU64))), (n5, .mem (.ar 1 (p1.toList.map eU64)))]) ⟨rfl, rfl, trivial⟩ (Sub.refl _) ?_
                    refine AO.calm rfl 32 rfl (by decide) (eBool (decide (t14 ≠ (t8.length : Int)))) (Calm.pickF rfl (congrArg (fun b => some (AV.fl (Value.bool b))) (decide_eq_false hc13)) rfl) ?_
                    exact AO.nilE (ρ' := [(32, (eBool (decide (t14 ≠ (t8.length : Int)))))]) (H' := [(n4, .mem (.ar 1 (p0.toList.map eU64))), (n5, .mem (.ar 1 (p1.toList.map eU64)))]) ⟨⟨_, rfl, rfl⟩, Sub.refl _⟩ ⟨rfl, trivial⟩ (Sub.refl _)
                  · refine AO.weak (ρ' := [(32, (eBool (decide (t14 ≠ (t8.length : Int)))))]) (H' := [(n4, .mem (.ar 1 (p0.toList.map eU64))), (n5, .mem (.ar 1 (p1.toList.map eU64)))]) ⟨rfl, trivial⟩ (Sub.refl _) ?_
                    refine AO.calm rfl 33 rfl (by decide) (eBool (decide (t14 ≠ (t8.length : Int)))) (Calm.move rfl rfl) ?_
                    exact AO.nilE (ρ' := [(33, (eBool (decide (t14 ≠ (t8.length : Int)))))]) (H' := [(n4, .mem (.ar 1 (p0.toList.map eU64))), (n5, .mem (.ar 1 (p1.toList.map eU64)))]) ⟨⟨_, rfl, rfl⟩, Sub.refl _⟩ ⟨rfl, trivial⟩ (Sub.refl _)
                  · refine AO.weak (ρ' := [(3, (.ptr n4 0)), (33, (eBool (decide (t14 ≠ (t8.length : Int)))))]) (H' := [(n4, .mem (.ar 1 (p0.toList.map eU64))), (n5, .mem (.ar 1 (p1.toList.map eU64)))]) ⟨rfl, rfl, trivial⟩ (Sub.refl _) ?_
                    refine AO.calmG 13 false 33 rfl rfl (congrArg (fun b => some (AV.fl (Value.bool b))) (decide_eq_false hc15)) 34 rfl (by decide) (.ar 1 (p0.toList.map eU64)) (Calm.load 0 rfl rfl rfl (At.cast At.here rfl) ag27 (by rw [sz27]; simp [AV.size])) ?_
                    exact AO.nilE (ρ' := [(34, (.ar 1 (p0.toList.map eU64)))]) (H' := [(n4, .mem (.ar 1 (p0.toList.map eU64))), (n5, .mem (.ar 1 (p1.toList.map eU64)))]) ⟨⟨_, rfl, rfl⟩, Sub.refl _⟩ ⟨rfl, trivial⟩ (Sub.refl _)
                  · refine AO.weak (ρ' := [(33, (eBool (decide (t14 ≠ (t8.length : Int))))), (34, (.ar 1 (p0.toList.map eU64)))]) (H' := [(n4, .mem (.ar 1 (p0.toList.map eU64))), (n5, .mem (.ar 1 (p1.toList.map eU64)))]) ⟨rfl, rfl, trivial⟩ (Sub.refl _) ?_
                    refine AO.callG 13 false 33 [(.ar 1 (p0.toList.map eU64))] (eBool t16) 35 rfl (by decide) ok19 rfl rfl (congrArg (fun b => some (AV.fl (Value.bool b))) (decide_eq_false hc15)) rfl rfl ⟨rfl, rfl, trivial⟩ (byteset_Empty_spec et16) ?_
                    exact AO.nilE (ρ' := [(35, (eBool t16))]) (H' := [(n4, .mem (.ar 1 (p0.toList.map eU64))), (n5, .mem (.ar 1 (p1.toList.map eU64)))]) ⟨⟨_, rfl, rfl⟩, Sub.refl _⟩ ⟨rfl, trivial⟩ (Sub.refl _)
                  · refine AO.weak (ρ' := [(7, (.fz 1 (t8.map eU8))), (33, (eBool (decide (t14 ≠ (t8.length : Int)))))]) (H' := [(n4, .mem (.ar 1 (p0.toList.map eU64))), (n5, .mem (.ar 1 (p1.toList.map eU64)))]) ⟨rfl, rfl, trivial⟩ (Sub.refl _) ?_
                    refine AO.calmG 13 false 33 rfl rfl (congrArg (fun b => some (AV.fl (Value.bool b))) (decide_eq_false hc15)) 36 rfl (by decide) (.fz 1 (t8.map eU8)) (Calm.move rfl rfl) ?_
                    exact AO.nilE (ρ' := [(36, (.fz 1 (t8.map eU8)))]) (H' := [(n4, .mem (.ar 1 (p0.toList.map eU64))), (n5, .mem (.ar 1 (p1.toList.map eU64)))]) ⟨⟨_, rfl, rfl⟩, Sub.refl _⟩ ⟨rfl, trivial⟩ (Sub.refl _)
                  · refine AO.weak (ρ' := [(33, (eBool (decide (t14 ≠ (t8.length : Int))))), (36, (.fz 1 (t8.map eU8)))]) (H' := [(n4, .mem (.ar 1 (p0.toList.map eU64))), (n5, .mem (.ar 1 (p1.toList.map eU64)))]) ⟨rfl, rfl, trivial⟩ (Sub.refl _) ?_
                    refine AO.calmG 13 false 33 rfl rfl (congrArg (fun b => some (AV.fl (Value.bool b))) (decide_eq_false hc15)) 37 rfl (by decide) (eI64 (t8.length : Int)) (Calm.lenL rfl rfl Tryd.underlying22) ?_
                    exact AO.nilE (ρ' := [(37, (eI64 (t8.length : Int)))]) (H' := [(n4, .mem (.ar 1 (p0.toList.map eU64))), (n5, .mem (.ar 1 (p1.toList.map eU64)))]) ⟨⟨_, rfl, rfl⟩, Sub.refl _⟩ ⟨rfl, trivial⟩ (Sub.refl _)
                  · refine AO.weak (ρ' := [(33, (eBool (decide (t14 ≠ (t8.length : Int))))), (37, (eI64 (t8.length : Int)))]) (H' := [(n4, .mem (.ar 1 (p0.toList.map eU64))), (n5, .mem (.ar 1 (p1.toList.map eU64)))]) ⟨rfl, rfl, trivial⟩ (Sub.refl _) ?_
                    refine AO.calmG 13 false 33 rfl rfl (congrArg (fun b => some (AV.fl (Value.bool b))) (decide_eq_false hc15)) 38 rfl (by decide) (eBool (decide ((t8.length : Int) = (0 : Int)))) (Calm.int rfl rfl rfl rfl) ?_
                    exact AO.nilE (ρ' := [(38, (eBool (decide ((t8.length : Int) = (0 : Int)))))]) (H' := [(n4, .mem (.ar 1 (p0.toList.map eU64))), (n5, .mem (.ar 1 (p1.toList.map eU64)))]) ⟨⟨_, rfl, rfl⟩, Sub.refl _⟩ ⟨rfl, trivial⟩ (Sub.refl _)
                  · refine AO.weak (ρ' := [(33, (eBool (decide (t14 ≠ (t8.length : Int))))), (35, (eBool t16)), (38, (eBool (decide ((t8.length : Int) = (0 : Int)))))]) (H' := [(n4, .mem (.ar 1 (p0.toList.map eU64))), (n5, .mem (.ar 1 (p1.toList.map eU64)))]) ⟨rfl, rfl, rfl, trivial⟩ (Sub.refl _) ?_
                    refine AO.calmG 13 false 33 rfl rfl (congrArg (fun b => some (AV.fl (Value.bool b))) (decide_eq_false hc15)) 39 rfl (by decide) (eBool (t16 != (decide ((t8.length : Int) = (0 : Int))))) (Calm.boolNe rfl rfl rfl Tryd.underlying4) ?_
                    exact AO.nilE (ρ' := [(39, (eBool (t16 != (decide ((t8.length : Int) = (0 : Int))))))]) (H' := [(n4, .mem (.ar 1 (p0.toList.map eU64))), (n5, .mem (.ar 1 (p1.toList.map eU64)))]) ⟨⟨_, rfl, rfl⟩, Sub.refl _⟩ ⟨rfl, trivial⟩ (Sub.refl _)
                  · refine AO.weak (ρ' := [(33, (eBool (decide (t14 ≠ (t8.length : Int))))), (39, (eBool (t16 != (decide ((t8.length : Int) = (0 : Int))))))]) (H' := [(n4, .mem (.ar 1 (p0.toList.map eU64))), (n5, .mem (.ar 1 (p1.toList.map eU64)))]) ⟨rfl, rfl, trivial⟩ (Sub.refl _) ?_
                    refine AO.calm rfl 40 rfl (by decide) (eBool (t16 != (decide ((t8.length : Int) = (0 : Int))))) (Calm.pickF rfl (congrArg (fun b => some (AV.fl (Value.bool b))) (decide_eq_false hc15)) rfl) ?_
                    exact AO.nilE (ρ' := [(40, (eBool (t16 != (decide ((t8.length : Int) = (0 : Int))))))]) (H' := [(n4, .mem (.ar 1 (p0.toList.map eU64))), (n5, .mem (.ar 1 (p1.toList.map eU64)))]) ⟨⟨_, rfl, rfl⟩, Sub.refl _⟩ ⟨rfl, trivial⟩ (Sub.refl _)
                  · refine AO.weak (ρ' := [(40, (eBool (t16 != (decide ((t8.length : Int) = (0 : Int))))))]) (H' := [(n4, .mem (.ar 1 (p0.toList.map eU64))), (n5, .mem (.ar 1 (p1.toList.map eU64)))]) ⟨rfl, trivial⟩ (Sub.refl _) ?_
                    refine AO.calm rfl 41 rfl (by decide) (eBool (t16 != (decide ((t8.length : Int) = (0 : Int))))) (Calm.move rfl rfl) ?_
                    exact AO.nilE (ρ' := [(41, (eBool (t16 != (decide ((t8.length : Int) = (0 : Int))))))]) (H' := [(n4, .mem (.ar 1 (p0.toList.map eU64))), (n5, .mem (.ar 1 (p1.toList.map eU64)))]) ⟨⟨_, rfl, rfl⟩, Sub.refl _⟩ ⟨rfl, trivial⟩ (Sub.refl _)
                  · refine AO.weak (ρ' := [(3, (.ptr n4 0)), (41, (eBool (t16 != (decide ((t8.length : Int) = (0 : Int))))))]) (H' := [(n4, .mem (.ar 1 (p0.toList.map eU64))), (n5, .mem (.ar 1 (p1.toList.map eU64)))]) ⟨rfl, rfl, trivial⟩ (Sub.refl _) ?_
                    refine AO.calmG 21 false 41 rfl rfl (congrArg (fun b => some (AV.fl (Value.bool b))) (eq_false_of_ne_true hc17)) 42 rfl (by decide) (.ar 1 (p0.toList.map eU64)) (Calm.load 0 rfl rfl rfl (At.cast At.here rfl) ag27 (by rw [sz27]; simp [AV.size])) ?_
                    exact AO.nilE (ρ' := [(42, (.ar 1 (p0.toList.map eU64)))]) (H' := [(n4, .mem (.ar 1 (p0.toList.map eU64))), (n5, .mem (.ar 1 (p1.toList.map eU64)))]) ⟨⟨_, rfl, rfl⟩, Sub.refl _⟩ ⟨rfl, trivial⟩ (Sub.refl _)
                  · refine AO.weak (ρ' := [(41, (eBool (t16 != (decide ((t8.length : Int) = (0 : Int)))))), (42, (.ar 1 (p0.toList.map eU64)))]) (H' := [(n4, .mem (.ar 1 (p0.toList.map eU64))), (n5, .mem (.ar 1 (p1.toList.map eU64)))]) ⟨rfl, rfl, trivial⟩ (Sub.refl _) ?_
                    refine AO.callG 21 false 41 [(.ar 1 (p0.toList.map eU64))] (eI64 t18) 43 rfl (by decide) ok20 rfl rfl (congrArg (fun b => some (AV.fl (Value.bool b))) (eq_false_of_ne_true hc17)) rfl rfl ⟨rfl, rfl, trivial⟩ (byteset_First_spec et18) ?_
                    exact AO.nilE (ρ' := [(43, (eI64 t18))]) (H' := [(n4, .mem (.ar 1 (p0.toList.map eU64))), (n5, .mem (.ar 1 (p1.toList.map eU64)))]) ⟨⟨_, rfl, rfl⟩, Sub.refl _⟩ ⟨rfl, trivial⟩ (Sub.refl _)
                  · refine AO.weak (ρ' := [(8, (eI64 x9)), (41, (eBool (t16 != (decide ((t8.length : Int) = (0 : Int))))))]) (H' := [(n4, .mem (.ar 1 (p0.toList.map eU64))), (n5, .mem (.ar 1 (p1.toList.map eU64)))]) ⟨rfl, rfl, trivial⟩ (Sub.refl _) ?_
                    refine AO.calmG 21 false 41 rfl rfl (congrArg (fun b => some (AV.fl (Value.bool b))) (eq_false_of_ne_true hc17)) 44 rfl (by decide) (eI64 x9) (Calm.move rfl rfl) ?_
                    exact AO.nilE (ρ' := [(44, (eI64 x9))]) (H' := [(n4, .mem (.ar 1 (p0.toList.map eU64))), (n5, .mem (.ar 1 (p1.toList.map eU64)))]) ⟨⟨_, rfl, rfl⟩, Sub.refl _⟩ ⟨rfl, trivial⟩ (Sub.refl _)
                  · refine AO.weak (ρ' := [(41, (eBool (t16 != (decide ((t8.length : Int) = (0 : Int)))))), (43, (eI64 t18)), (44, (eI64 x9))]) (H' := [(n4, .mem (.ar 1 (p0.toList.map eU64))), (n5, .mem (.ar 1 (p1.toList.map eU64)))]) ⟨rfl, rfl, rfl, trivial⟩ (Sub.refl _) ?_
                    refine AO.calmG 21 false 41 rfl rfl (congrArg (fun b => some (AV.fl (Value.bool b))) (eq_false_of_ne_true hc17)) 45 rfl (by decide) (eBool (decide (t18 ≠ x9))) (Calm.int rfl rfl rfl rfl) ?_
                    exact AO.nilE (ρ' := [(45, (eBool (decide (t18 ≠ x9))))]) (H' := [(n4, .mem (.ar 1 (p0.toList.map eU64))), (n5, .mem (.ar 1 (p1.toList.map eU64)))]) ⟨⟨_, rfl, rfl⟩, Sub.refl _⟩ ⟨rfl, trivial⟩ (Sub.refl _)
                  · refine AO.weak (ρ' := [(41, (eBool (t16 != (decide ((t8.length : Int) = (0 : Int)))))), (45, (eBool (decide (t18 ≠ x9))))]) (H' := [(n4, .mem (.ar 1 (p0.toList.map eU64))), (n5, .mem (.ar 1 (p1.toList.map eU64)))]) ⟨rfl, rfl, trivial⟩ (Sub.refl _) ?_
                    refine AO.calm rfl 46 rfl (by decide) (eBool (decide (t18 ≠ x9))) (Calm.pickF rfl (congrArg (fun b => some (AV.fl (Value.bool b))) (eq_false_of_ne_true hc17)) rfl) ?_
                    exact AO.nilE (ρ' := [(46, (eBool (decide (t18 ≠ x9))))]) (H' := [(n4, .mem (.ar 1 (p0.toList.map eU64))), (n5, .mem (.ar 1 (p1.toList.map eU64)))]) ⟨⟨_, rfl, rfl⟩, Sub.refl _⟩ ⟨rfl, trivial⟩ (Sub.refl _)
                  · refine AO.weak (ρ' := [(46, (eBool (decide (t18 ≠ x9))))]) (H' := [(n4, .mem (.ar 1 (p0.toList.map eU64))), (n5, .mem (.ar 1 (p1.toList.map eU64)))]) ⟨rfl, trivial⟩ (Sub.refl _) ?_
                    refine AO.calm rfl 47 rfl (by decide) (eBool (decide (t18 ≠ x9))) (Calm.move rfl rfl) ?_
                    exact AO.nilE (ρ' := [(47, (eBool (decide (t18 ≠ x9))))]) (H' := [(n4, .mem (.ar 1 (p0.toList.map eU64))), (n5, .mem (.ar 1 (p1.toList.map eU64)))]) ⟨⟨_, rfl, rfl⟩, Sub.refl _⟩ ⟨rfl, trivial⟩ (Sub.refl _)
                  · refine AO.weak (ρ' := [(47, (eBool (decide (t18 ≠ x9))))]) (H' := [(n4, .mem (.ar 1 (p0.toList.map eU64))), (n5, .mem (.ar 1 (p1.toList.map eU64)))]) ⟨rfl, trivial⟩ (Sub.refl _) ?_
                    refine AO.skipG 27 true 47 rfl rfl (congrArg (fun b => some (AV.fl (Value.bool b))) (decide_eq_true hc19)) 48 rfl (by decide) ?_
                    exact AO.nilE (ρ' := [(48, (.fl undef))]) (H' := [(n4, .mem (.ar 1 (p0.toList.map eU64))), (n5, .mem (.ar 1 (p1.toList.map eU64)))]) ⟨⟨_, rfl, rfl⟩, Sub.refl _⟩ ⟨rfl, trivial⟩ (Sub.refl _)
                  · refine AO.weak (ρ' := [(47, (eBool (decide (t18 ≠ x9))))]) (H' := [(n4, .mem (.ar 1 (p0.toList.map eU64))), (n5, .mem (.ar 1 (p1.toList.map eU64)))]) ⟨rfl, trivial⟩ (Sub.refl _) ?_
                    refine AO.skipG 27 true 47 rfl rfl (congrArg (fun b => some (AV.fl (Value.bool b))) (decide_eq_true hc19)) 49 rfl (by decide) ?_
                    exact AO.nilE (ρ' := [(49, (.fl undef))]) (H' := [(n4, .mem (.ar 1 (p0.toList.map eU64))), (n5, .mem (.ar 1 (p1.toList.map eU64)))]) ⟨⟨_, rfl, rfl⟩, Sub.refl _⟩ ⟨rfl, trivial⟩ (Sub.refl _)
                  · refine AO.weak (ρ' := [(47, (eBool (decide (t18 ≠ x9))))]) (H' := [(n4, .mem (.ar 1 (p0.toList.map eU64))), (n5, .mem (.ar 1 (p1.toList.map eU64)))]) ⟨rfl, trivial⟩ (Sub.refl _) ?_
                    refine AO.skipG 27 true 47 rfl rfl (congrArg (fun b => some (AV.fl (Value.bool b))) (decide_eq_true hc19)) 50 rfl (by decide) ?_
                    exact AO.nilE (ρ' := [(50, (.fl undef))]) (H' := [(n4, .mem (.ar 1 (p0.toList.map eU64))), (n5, .mem (.ar 1 (p1.toList.map eU64)))]) ⟨⟨_, rfl, rfl⟩, Sub.refl _⟩ ⟨rfl, trivial⟩ (Sub.refl _)
                  · refine AO.weak (ρ' := [(47, (eBool (decide (t18 ≠ x9))))]) (H' := [(n4, .mem (.ar 1 (p0.toList.map eU64))), (n5, .mem (.ar 1 (p1.toList.map eU64)))]) ⟨rfl, trivial⟩ (Sub.refl _) ?_
                    refine AO.skipG 27 true 47 rfl rfl (congrArg (fun b => some (AV.fl (Value.bool b))) (decide_eq_true hc19)) 51 rfl (by decide) ?_
                    exact AO.nilE (ρ' := [(51, (.fl undef))]) (H' := [(n4, .mem (.ar 1 (p0.toList.map eU64))), (n5, .mem (.ar 1 (p1.toList.map eU64)))]) ⟨⟨_, rfl, rfl⟩, Sub.refl _⟩ ⟨rfl, trivial⟩ (Sub.refl _)
                  · refine AO.weak (ρ' := [(47, (eBool (decide (t18 ≠ x9))))]) (H' := [(n4, .mem (.ar 1 (p0.toList.map eU64))), (n5, .mem (.ar 1 (p1.toList.map eU64)))]) ⟨rfl, trivial⟩ (Sub.refl _) ?_
                    refine AO.skipG 27 true 47 rfl rfl (congrArg (fun b => some (AV.fl (Value.bool b))) (decide_eq_true hc19)) 52 rfl (by decide) ?_
                    exact AO.nilE (ρ' := [(52, (.fl undef))]) (H' := [(n4, .mem (.ar 1 (p0.toList.map eU64))), (n5, .mem (.ar 1 (p1.toList.map eU64)))]) ⟨⟨_, rfl, rfl⟩, Sub.refl _⟩ ⟨rfl, trivial⟩ (Sub.refl _)
                  · refine AO.weak (ρ' := [(47, (eBool (decide (t18 ≠ x9))))]) (H' := [(n4, .mem (.ar 1 (p0.toList.map eU64))), (n5, .mem (.ar 1 (p1.toList.map eU64)))]) ⟨rfl, trivial⟩ (Sub.refl _) ?_
                    refine AO.skipG 27 true 47 rfl rfl (congrArg (fun b => some (AV.fl (Value.bool b))) (decide_eq_true hc19)) 53 rfl (by decide) ?_
                    exact AO.nilE (ρ' := [(53, (.fl undef))]) (H' := [(n4, .mem (.ar 1 (p0.toList.map eU64))), (n5, .mem (.ar 1 (p1.toList.map eU64)))]) ⟨⟨_, rfl, rfl⟩, Sub.refl _⟩ ⟨rfl, trivial⟩ (Sub.refl _)
                  · refine AO.weak (ρ' := [(47, (eBool (decide (t18 ≠ x9))))]) (H' := [(n4, .mem (.ar 1 (p0.toList.map eU64))), (n5, .mem (.ar 1 (p1.toList.map eU64)))]) ⟨rfl, trivial⟩ (Sub.refl _) ?_
                    refine AO.skipG 27 true 47 rfl rfl (congrArg (fun b => some (AV.fl (Value.bool b))) (decide_eq_true hc19)) 54 rfl (by decide) ?_
                    exact AO.nilE (ρ' := [(54, (.fl undef))]) (H' := [(n4, .mem (.ar 1 (p0.toList.map eU64))), (n5, .mem (.ar 1 (p1.toList.map eU64)))]) ⟨⟨_, rfl, rfl⟩, Sub.refl _⟩ ⟨rfl, trivial⟩ (Sub.refl _)
                  · refine AO.weak (ρ' := [(47, (eBool (decide (t18 ≠ x9))))]) (H' := [(n4, .mem (.ar 1 (p0.toList.map eU64))), (n5, .mem (.ar 1 (p1.toList.map eU64)))]) ⟨rfl, trivial⟩ (Sub.refl _) ?_
                    refine AO.skipG 27 true 47 rfl rfl (congrArg (fun b => some (AV.fl (Value.bool b))) (decide_eq_true hc19)) 55 rfl (by decide) ?_
                    exact AO.nilE (ρ' := [(55, (.fl undef))]) (H' := [(n4, .mem (.ar 1 (p0.toList.map eU64))), (n5, .mem (.ar 1 (p1.toList.map eU64)))]) ⟨⟨_, rfl, rfl⟩, Sub.refl _⟩ ⟨rfl, trivial⟩ (Sub.refl _)
                  · refine AO.weak (ρ' := [(47, (eBool (decide (t18 ≠ x9)))), (55, (.fl undef))]) (H' := [(n4, .mem (.ar 1 (p0.toList.map eU64))), (n5, .mem (.ar 1 (p1.toList.map eU64)))]) ⟨rfl, rfl, trivial⟩ (Sub.refl _) ?_
                    refine AO.calm rfl 56 rfl (by decide) (eBool true) (Calm.pickT rfl (congrArg (fun b => some (AV.fl (Value.bool b))) (decide_eq_true hc19)) rfl) ?_
                    exact AO.nilE (ρ' := [(56, (eBool true))]) (H' := [(n4, .mem (.ar 1 (p0.toList.map eU64))), (n5, .mem (.ar 1 (p1.toList.map eU64)))]) ⟨⟨_, rfl, rfl⟩, Sub.refl _⟩ ⟨rfl, trivial⟩ (Sub.refl _)
                · cases hq11
                  exact ⟨rfl, rfl, rfl⟩
              · have hq11 := (if_neg hc19).symm.trans hq11
                obtain ⟨t20, et20, hq11⟩ := of_bind hq11
                obtain ⟨t21, et21, hq11⟩ := of_bind hq11
                refine AW.regAny (by rfl) (by decide +kernel) [(.ar 1 (p0.toList.map eU64)), (.fz 1 (t12.map eU8)), (eStr (strOfNums t12)), (.fz 1 (t8.map eU8)), (eStr (strOfNums t8)), (eBool (decide ((strOfNums t12) ≠ (strOfNums t8)))), (eBool (decide ((strOfNums t12) ≠ (strOfNums t8)))), (.ar 1 (p0.toList.map eU64)), (eI64 t14), (.fz 1 (t8.map eU8)), (eI64 (t8.length : Int)), (eBool (decide (t14 ≠ (t8.length : Int)))), (eBool (decide (t14 ≠ (t8.length : Int)))), (eBool (decide (t14 ≠ (t8.length : Int)))), (.ar 1 (p0.toList.map eU64)), (eBool t16), (.fz 1 (t8.map eU8)), (eI64 (t8.length : Int)), (eBool (decide ((t8.length : Int) = (0 : Int)))), (eBool (t16 != (decide ((t8.length : Int) = (0 : Int))))), (eBool (t16 != (decide ((t8.length : Int) = (0 : Int))))), (eBool (t16 != (decide ((t8.length : Int) = (0 : Int))))), (.ar 1 (p0.toList.map eU64)), (eI64 t18), (eI64 x9), (eBool (decide (t18 ≠ x9))), (eBool (decide (t18 ≠ x9))), (eBool (decide (t18 ≠ x9))), (.ar 1 (p0.toList.map eU64)), (eU8 p2), (eBool t20), (.ar 1 (p0.toList.map eU64)), (eU8 p2), (eI64 (w64 p2)), (eBool t21), (eBool (t20 != t21)), (eBool (t20 != t21))] [(2, (eU8 p2)), (3, (.ptr n4 0)), (4, (.ptr n5 0)), (7, (.fz 1 (t8.map eU8))), (8, (eI64 x9))] ⟨rfl, rfl, rfl, rfl, rfl, trivial⟩ rfl ?_ [(3, (.ptr n4 0)), (4, (.ptr n5 0)), (56, (eBool (t20 != t21)))] [(n4, .mem (.ar 1 (p0.toList.map eU64))), (n5, .mem (.ar 1 (p1.toList.map eU64)))] ⟨rfl, rfl, rfl, trivial⟩ (Sub.refl _) ?_
                · refine ⟨?_, ?_, ?_, ?_, ?_, ?_, ?_, ?_, ?_, ?_, ?_, ?_, ?_, ?_, ?_, ?_, ?_, ?_, ?_, ?_, ?_, ?_, ?_, ?_, ?_, ?_, ?_, ?_, ?_, ?_, ?_, ?_, ?_, ?_, ?_, ?_, ?_, trivial⟩
                  · refine AO.weak (ρ' := [(3, (.ptr n4 0))]) (H' := [(n4, .mem (.ar 1 (p0.toList.map eU64))), (n5, .mem (.ar 1 (p1.toList.map eU64)))]) ⟨rfl, trivial⟩ (Sub.refl _) ?_
                    refine AO.calm rfl 20 rfl (by decide) (.ar 1 (p0.toList.map eU64)) (Calm.load 0 rfl rfl rfl (At.cast At.here rfl) ag27 (by rw [sz27]; simp [AV.size])) ?_
                    exact AO.nilE (ρ' := [(20, (.ar 1 (p0.toList.map eU64)))]) (H' := [(n4, .mem (.ar 1 (p0.toList.map eU64))), (n5, .mem (.ar 1 (p1.toList.map eU64)))]) ⟨⟨_, rfl, rfl⟩, Sub.refl _⟩ ⟨rfl, trivial⟩ (Sub.refl _)
                  · refine AO.weak (ρ' := [(20, (.ar 1 (p0.toList.map eU64)))]) (H' := [(n4, .mem (.ar 1 (p0.toList.map eU64))), (n5, .mem (.ar 1 (p1.toList.map eU64)))]) ⟨rfl, trivial⟩ (Sub.refl _) ?_
                    refine AO.callS [(.ar 1 (p0.toList.map eU64))] (.fz 1 (t12.map eU8)) 21 rfl (by decide) ok17 rfl rfl rfl ⟨rfl, rfl, trivial⟩ (byteset_List_spec et12) ?_
                    exact AO.nilE (ρ' := [(21, (.fz 1 (t12.map eU8)))]) (H' := [(n4, .mem (.ar 1 (p0.toList.map eU64))), (n5, .mem (.ar 1 (p1.toList.map eU64)))]) ⟨⟨_, rfl, rfl⟩, Sub.refl _⟩ ⟨rfl, trivial⟩ (Sub.refl _)
                  · refine AO.weak (ρ' := [(21, (.fz 1 (t12.map eU8)))]) (H' := [(n4, .mem (.ar 1 (p0.toList.map eU64))), (n5, .mem (.ar 1 (p1.toList.map eU64)))]) ⟨rfl, trivial⟩ (Sub.refl _) ?_
                    refine AO.calm rfl 22 rfl (by decide) (eStr (strOfNums t12)) (Calm.strL rfl rfl Tryd.underlying22 Tryd.underlying9 Tryd.underlying5) ?_
                    exact AO.nilE (ρ' := [(22, (eStr (strOfNums t12)))]) (H' := [(n4, .mem (.ar 1 (p0.toList.map eU64))), (n5, .mem (.ar 1 (p1.toList.map eU64)))]) ⟨⟨_, rfl, rfl⟩, Sub.refl _⟩ ⟨rfl, trivial⟩ (Sub.refl _)
                  · refine AO.weak (ρ' := [(7, (.fz 1 (t8.map eU8)))]) (H' := [(n4, .mem (.ar 1 (p0.toList.map eU64))), (n5, .mem (.ar 1 (p1.toList.map eU64)))]) ⟨rfl, trivial⟩ (Sub.refl _) ?_
                    refine AO.calm rfl 23 rfl (by decide) (.fz 1 (t8.map eU8)) (Calm.move rfl rfl) ?_
                    exact AO.nilE (ρ' := [(23, (.fz 1 (t8.map eU8)))]) (H' := [(n4, .mem (.ar 1 (p0.toList.map eU64))), (n5, .mem (.ar 1 (p1.toList.map eU64)))]) ⟨⟨_, rfl, rfl⟩, Sub.refl _⟩ ⟨rfl, trivial⟩ (Sub.refl _)
                  · refine AO.weak (ρ' := [(23, (.fz 1 (t8.map eU8)))]) (H' := [(n4, .mem (.ar 1 (p0.toList.map eU64))), (n5, .mem (.ar 1 (p1.toList.map eU64)))]) ⟨rfl, trivial⟩ (Sub.refl _) ?_
                    refine AO.calm rfl 24 rfl (by decide) (eStr (strOfNums t8)) (Calm.strL rfl rfl Tryd.underlying22 Tryd.underlying9 Tryd.underlying5) ?_
                    exact AO.nilE (ρ' := [(24, (eStr (strOfNums t8)))]) (H' := [(n4, .mem (.ar 1 (p0.toList.map eU64))), (n5, .mem (.ar 1 (p1.toList.map eU64)))]) ⟨⟨_, rfl, rfl⟩, Sub.refl _⟩ ⟨rfl, trivial⟩ (Sub.refl _)
                  · refine AO.weak (ρ' := [(22, (eStr (strOfNums t12))), (24, (eStr (strOfNums t8)))]) (H' := [(n4, .mem (.ar 1 (p0.toList.map eU64))), (n5, .mem (.ar 1 (p1.toList.map eU64)))]) ⟨rfl, rfl, trivial⟩ (Sub.refl _) ?_
                    refine AO.calm rfl 25 rfl (by decide) (eBool (decide ((strOfNums t12) ≠ (strOfNums t8)))) (Calm.str rfl rfl rfl rfl) ?_
                    exact AO.nilE (ρ' := [(25, (eBool (decide ((strOfNums t12) ≠ (strOfNums t8)))))]) (H' := [(n4, .mem (.ar 1 (p0.toList.map eU64))), (n5, .mem (.ar 1 (p1.toList.map eU64)))]) ⟨⟨_, rfl, rfl⟩, Sub.refl _⟩ ⟨rfl, trivial⟩ (Sub.refl _)
                  · refine AO.weak (ρ' := [(25, (eBool (decide ((strOfNums t12) ≠ (strOfNums t8)))))]) (H' := [(n4, .mem (.ar 1 (p0.toList.map eU64))), (n5, .mem (.ar 1 (p1.toList.map eU64)))]) ⟨rfl, trivial⟩ (Sub.refl _) ?_
                    refine AO.calm rfl 26 rfl (by decide) (eBool (decide ((strOfNums t12) ≠ (strOfNums t8)))) (Calm.move rfl rfl) ?_
                    exact AO.nilE (ρ' := [(26, (eBool (decide ((strOfNums t12) ≠ (strOfNums t8)))))]) (H' := [(n4, .mem (.ar 1 (p0.toList.map eU64))), (n5, .mem (.ar 1 (p1.toList.map eU64)))]) ⟨⟨_, rfl, rfl⟩, Sub.refl _⟩ ⟨rfl, trivial⟩ (Sub.refl _)
                  · refine AO.weak (ρ' := [(3, (.ptr n4 0)), (26, (eBool (decide ((strOfNums t12) ≠ (strOfNums t8)))))]) (H' := [(n4, .mem (.ar 1 (p0.toList.map eU64))), (n5, .mem (.ar 1 (p1.toList.map eU64)))]) ⟨rfl, rfl, trivial⟩ (Sub.refl _) ?_
                    refine AO.calmG 6 false 26 rfl rfl (congrArg (fun b => some (AV.fl (Value.bool b))) (decide_eq_false hc13)) 27 rfl (by decide) (.ar 1 (p0.toList.map eU64)) (Calm.load 0 rfl rfl rfl (At.cast At.here rfl) ag27 (by rw [sz27]; simp [AV.size])) ?_
                    exact AO.nilE (ρ' := [(27, (.ar 1 (p0.toList.map eU64)))]) (H' := [(n4, .mem (.ar 1 (p0.toList.map eU64))), (n5, .mem (.ar 1 (p1.toList.map eU64)))]) ⟨⟨_, rfl, rfl⟩, Sub.refl _⟩ ⟨rfl, trivial⟩ (Sub.refl _)
                  · refine AO.weak (ρ' := [(26, (eBool (decide ((strOfNums t12) ≠ (strOfNums t8))))), (27, (.ar 1 (p0.toList.map eU64)))]) (H' := [(n4, .mem (.ar 1 (p0.toList.map eU64))), (n5, .mem (.ar 1 (p1.toList.map eU64)))]) ⟨rfl, rfl, trivial⟩ (Sub.refl _) ?_
                    refine AO.callG 6 false 26 [(.ar 1 (p0.toList.map eU64))] (eI64 t14) 28 rfl (by decide) ok18 rfl rfl (congrArg (fun b => some (AV.fl (Value.bool b))) (decide_eq_false hc13)) rfl rfl ⟨rfl, rfl, trivial⟩ (byteset_Len_spec et14) ?_
                    exact AO.nilE (ρ' := [(28, (eI64 t14))]) (H' := [(n4, .mem (.ar 1 (p0.toList.map eU64))), (n5, .mem (.ar 1 (p1.toList.map eU64)))]) ⟨⟨_, rfl, rfl⟩, Sub.refl _⟩ ⟨rfl, trivial⟩ (Sub.refl _)
                  · refine AO.weak (ρ' := [(7, (.fz 1 (t8.map eU8))), (26, (eBool (decide ((strOfNums t12) ≠ (strOfNums t8)))))]) (H' := [(n4, .mem (.ar 1 (p0.toList.map eU64))), (n5, .mem (.ar 1 (p1.toList.map eU64)))]) ⟨rfl, rfl, trivial⟩ (Sub.refl _) ?_
                    refine AO.calmG 6 false 26 rfl rfl (congrArg (fun b => some (AV.fl (Value.bool b))) (decide_eq_false hc13)) 29 rfl (by decide) (.fz 1 (t8.map eU8)) (Calm.move rfl rfl) ?_
                    exact AO.nilE (ρ' := [(29, (.fz 1 (t8.map eU8)))]) (H' := [(n4, .mem (.ar 1 (p0.toList.map eU64))), (n5, .mem (.ar 1 (p1.toList.map eU64)))]) ⟨⟨_, rfl, rfl⟩, Sub.refl _⟩ ⟨rfl, trivial⟩ (Sub.refl _)
                  · refine AO.weak (ρ' := [(26, (eBool (decide ((strOfNums t12) ≠ (strOfNums t8))))), (29, (.fz 1 (t8.map eU8)))]) (H' := [(n4, .mem (.ar 1 (p0.toList.map eU64))), (n5, .mem (.ar 1 (p1.toList.map eU64)))]) ⟨rfl, rfl, trivial⟩ (Sub.refl _) ?_
                    refine AO.calmG 6 false 26 rfl rfl (congrArg (fun b => some (AV.fl (Value.bool b))) (decide_eq_false hc13)) 30 rfl (by decide) (eI64 (t8.length : Int)) (Calm.lenL rfl rfl Tryd.underlying22) ?_
                    exact AO.nilE (ρ' := [(30, (eI64 (t8.length : Int)))]) (H' := [(n4, .mem (.ar 1 (p0.toList.map eU64))), (n5, .mem (.ar 1 (p1.toList.map eU64)))]) ⟨⟨_, rfl, rfl⟩, Sub.refl _⟩ ⟨rfl, trivial⟩ (Sub.refl _)
                  · refine AO.weak (ρ' := [(26, (eBool (decide ((strOfNums t12) ≠ (strOfNums t8))))), (28, (eI64 t14)), (30, (eI64 (t8.length : Int)))]) (H' := [(n4, .mem (.ar 1 (p0.toList.map eU64))), (n5, .mem (.ar 1 (p1.toList.map eU64)))]) ⟨rfl, rfl, rfl, trivial⟩ (Sub.refl _) ?_
                    refine AO.calmG 6 false 26 rfl rfl (congrArg (fun b => some (AV.fl (Value.bool b))) (decide_eq_false hc13)) 31 rfl (by decide) (eBool (decide (t14 ≠ (t8.length : Int)))) (Calm.int rfl rfl rfl rfl) ?_
                    exact AO.nilE (ρ' := [(31, (eBool (decide (t14 ≠ (t8.length : Int)))))]) (H' := [(n4, .mem (.ar 1 (p0.toList.map eU64))), (n5, .mem (.ar 1 (p1.toList.map eU64)))]) ⟨⟨_, rfl, rfl⟩, Sub.refl _⟩ ⟨rfl, trivial⟩ (Sub.refl _)
                  · refine AO.weak (ρ' := [(26, (eBool (decide ((strOfNums t12) ≠ (strOfNums t8))))), (31, (eBool (decide (t14 ≠ (t8.length : Int)))))]) (H' := [(n4, .mem (.ar 1 (p0.toList.map eU64))), (n5, .mem (.ar 1 (p1.toList.map eU64)))]) ⟨rfl, rfl, trivial⟩ (Sub.refl _) ?_
                    refine AO.calm rfl 32 rfl (by decide) (eBool (decide (t14 ≠ (t8.length : Int)))) (Calm.pickF rfl (congrArg (fun b => some (AV.fl (Value.bool b))) (decide_eq_false hc13)) rfl) ?_
                    exact AO.nilE (ρ' := [(32, (eBool (decide (t14 ≠ (t8.length : Int)))))]) (H' := [(n4, .mem (.ar 1 (p0.toList.map eU64))), (n5, .mem (.ar 1 (p1.toList.map eU64)))]) ⟨⟨_, rfl, rfl⟩, Sub.refl _⟩ ⟨rfl, trivial⟩ (Sub.refl _)
                  · refine AO.weak (ρ' := [(32, (eBool (decide (t14 ≠ (t8.length : Int)))))]) (H' := [(n4, .mem (.ar 1 (p0.toList.map eU64))), (n5, .mem (.ar 1 (p1.toList.map eU64)))]) ⟨rfl, trivial⟩ (Sub.refl _) ?_
                    refine AO.calm rfl 33 rfl (by decide) (eBool (decide (t14 ≠ (t8.length : Int)))) (Calm.move rfl rfl) ?_
                    exact AO.nilE (ρ' := [(33, (eBool (decide (t14 ≠ (t8.length : Int)))))]) (H' := [(n4, .mem (.ar 1 (p0.toList.map eU64))), (n5, .mem (.ar 1 (p1.toList.map eU64)))]) ⟨⟨_, rfl, rfl⟩, Sub.refl _⟩ ⟨rfl, trivial⟩ (Sub.refl _)
                  · refine AO.weak (ρ' := [(3, (.ptr n4 0)), (33, (eBool (decide (t14 ≠ (t8.length : Int)))))]) (H' := [(n4, .mem (.ar 1 (p0.toList.map eU64))), (n5, .mem (.ar 1 (p1.toList.map eU64)))]) ⟨rfl, rfl, trivial⟩ (Sub.refl _) ?_
                    refine AO.calmG 13 false 33 rfl rfl (congrArg (fun b => some (AV.fl (Value.bool b))) (decide_eq_false hc15)) 34 rfl (by decide) (.ar 1 (p0.toList.map eU64)) (Calm.load 0 rfl rfl rfl (At.cast At.here rfl) ag27 (by rw [sz27]; simp [AV.size])) ?_
                    exact AO.nilE (ρ' := [(34, (.ar 1 (p0.toList.map eU64)))]) (H' := [(n4, .mem (.ar 1 (p0.toList.map eU64))), (n5, .mem (.ar 1 (p1.toList.map eU64)))]) ⟨⟨_, rfl, rfl⟩, Sub.refl _⟩ ⟨rfl, trivial⟩ (Sub.refl _)
                  · refine AO.weak (ρ' := [(33, (eBool (decide (t14 ≠ (t8.length : Int))))), (34, (.ar 1 (p0.toList.map eU64)))]) (H' := [(n4, .mem (.ar 1 (p0.toList.map eU64))), (n5, .mem (.ar 1 (p1.toList.map eU64)))]) ⟨rfl, rfl, trivial⟩ (Sub.refl _) ?_
                    refine AO.callG 13 false 33 [(.ar 1 (p0.toList.map eU64))] (eBool t16) 35 rfl (by decide) ok19 rfl rfl (congrArg (fun b => some (AV.fl (Value.bool b))) (decide_eq_false hc15)) rfl rfl ⟨rfl, rfl, trivial⟩ (byteset_Empty_spec et16) ?_
                    exact AO.nilE (ρ' := [(35, (eBool t16))]) (H' := [(n4, .mem (.ar 1 (p0.toList.map eU64))), (n5, .mem (.ar 1 (p1.toList.map eU64)))]) ⟨⟨_, rfl, rfl⟩, Sub.refl _⟩ ⟨rfl, trivial⟩ (Sub.refl _)
                  · refine AO.weak (ρ' := [(7, (.fz 1 (t8.map eU8))), (33, (eBool (decide (t14 ≠ (t8.length : Int)))))]) (H' := [(n4, .mem (.ar 1 (p0.toList.map eU64))), (n5, .mem (.ar 1 (p1.toList.map eU64)))]) ⟨rfl, rfl, trivial⟩ (Sub.refl _) ?_
                    refine AO.calmG 13 false 33 rfl rfl (congrArg (fun b => some (AV.fl (Value.bool b))) (decide_eq_false hc15)) 36 rfl (by decide) (.fz 1 (t8.map eU8)) (Calm.move rfl rfl) ?_
                    exact AO.nilE (ρ' := [(36, (.fz 1 (t8.map eU8)))]) (H' := [(n4, .mem (.ar 1 (p0.toList.map eU64))), (n5, .mem (.ar 1 (p1.toList.map eU64)))]) ⟨⟨_, rfl, rfl⟩, Sub.refl _⟩ ⟨rfl, trivial⟩ (Sub.refl _)
                  · refine AO.weak (ρ' := [(33, (eBool (decide (t14 ≠ (t8.length : Int))))), (36, (.fz 1 (t8.map eU8)))]) (H' := [(n4, .mem (.ar 1 (p0.toList.map eU64))), (n5, .mem (.ar 1 (p1.toList.map eU64)))]) ⟨rfl, rfl, trivial⟩ (Sub.refl _) ?_
                    refine AO.calmG 13 false 33 rfl rfl (congrArg (fun b => some (AV.fl (Value.bool b))) (decide_eq_false hc15)) 37 rfl (by decide) (eI64 (t8.length : Int)) (Calm.lenL rfl rfl Tryd.underlying22) ?_
                    exact AO.nilE (ρ' := [(37, (eI64 (t8.length : Int)))]) (H' := [(n4, .mem (.ar 1 (p0.toList.map eU64))), (n5, .mem (.ar 1 (p1.toList.map eU64)))]) ⟨⟨_, rfl, rfl⟩, Sub.refl _⟩ ⟨rfl, trivial⟩ (Sub.refl _)
                  · refine AO.weak (ρ' := [(33, (eBool (decide (t14 ≠ (t8.length : Int))))), (37, (eI64 (t8.length : Int)))]) (H' := [(n4, .mem (.ar 1 (p0.toList.map eU64))), (n5, .mem (.ar 1 (p1.toList.map eU64)))]) ⟨rfl, rfl, trivial⟩ (Sub.refl _) ?_
                    refine AO.calmG 13 false 33 rfl rfl (congrArg (fun b => some (AV.fl (Value.bool b))) (decide_eq_false hc15)) 38 rfl (by decide) (eBool (decide ((t8.length : Int) = (0 : Int)))) (Calm.int rfl rfl rfl rfl) ?_
                    exact AO.nilE (ρ' := [(38, (eBool (decide ((t8.length : Int) = (0 : Int)))))]) (H' := [(n4, .mem (.ar 1 (p0.toList.map eU64))), (n5, .mem (.ar 1 (p1.toList.map eU64)))]) ⟨⟨_, rfl, rfl⟩, Sub.refl _⟩ ⟨rfl, trivial⟩ (Sub.refl _)
                  · refine AO.weak (ρ' := [(33, (eBool (decide (t14 ≠ (t8.length : Int))))), (35, (eBool t16)), (38, (eBool (decide ((t8.length : Int) = (0 : Int)))))]) (H' := [(n4, .mem (.ar 1 (p0.toList.map eU64))), (n5, .mem (.ar 1 (p1.toList.map eU64)))]) ⟨rfl, rfl, rfl, trivial⟩ (Sub.refl _) ?_
                    refine AO.calmG 13 false 33 rfl rfl (congrArg (fun b => some (AV.fl (Value.bool b))) (decide_eq_false hc15)) 39 rfl (by decide) (eBool (t16 != (decide ((t8.length : Int) = (0 : Int))))) (Calm.boolNe rfl rfl rfl Tryd.underlying4) ?_
                    exact AO.nilE (ρ' := [(39, (eBool (t16 != (decide ((t8.length : Int) = (0 : Int))))))]) (H' := [(n4, .mem (.ar 1 (p0.toList.map eU64))), (n5, .mem (.ar 1 (p1.toList.map eU64)))]) ⟨⟨_, rfl, rfl⟩, Sub.refl _⟩ ⟨rfl, trivial⟩ (Sub.refl _)
                  · refine AO.weak (ρ' := [(33, (eBool (decide (t14 ≠ (t8.length : Int))))), (39, (eBool (t16 != (decide ((t8.length : Int) = (0 : Int))))))]) (H' := [(n4, .mem (.ar 1 (p0.toList.map eU64))), (n5, .mem (.ar 1 (p1.toList.map eU64)))]) ⟨rfl, rfl, trivial⟩ (Sub.refl _) ?_
                    refine AO.calm rfl 40 rfl (by decide) (eBool (t16 != (decide ((t8.length : Int) = (0 : Int))))) (Calm.pickF rfl (congrArg (fun b => some (AV.fl (Value.bool b))) (decide_eq_false hc15)) rfl) ?_
                    exact AO.nilE (ρ' := [(40, (eBool (t16 != (decide ((t8.length : Int) = (0 : Int))))))]) (H' := [(n4, .mem (.ar 1 (p0.toList.map eU64))), (n5, .mem (.ar 1 (p1.toList.map eU64)))]) ⟨⟨_, rfl, rfl⟩, Sub.refl _⟩ ⟨rfl, trivial⟩ (Sub.refl _)
                  · refine AO.weak (ρ' := [(40, (eBool (t16 != (decide ((t8.length : Int) = (0 : Int))))))]) (H' := [(n4, .mem (.ar 1 (p0.toList.map eU64))), (n5, .mem (.ar 1 (p1.toList.map eU64)))]) ⟨rfl, trivial⟩ (Sub.refl _) ?_
                    refine AO.calm rfl 41 rfl (by decide) (eBool (t16 != (decide ((t8.length : Int) = (0 : Int))))) (Calm.move rfl rfl) ?_
                    exact AO.nilE (ρ' := [(41, (eBool (t16 != (decide ((t8.length : Int) = (0 : Int))))))]) (H' := [(n4, .mem (.ar 1 (p0.toList.map eU64))), (n5, .mem (.ar 1 (p1.toList.map eU64)))]) ⟨⟨_, rfl, rfl⟩, Sub.refl _⟩ ⟨rfl, trivial⟩ (Sub.refl _)
                  · refine AO.weak (ρ' := [(3, (.ptr n4 0)), (41, (eBool (t16 != (decide ((t8.length : Int) = (0 : Int))))))]) (H' := [(n4, .mem (.ar 1 (p0.toList.map eU64))), (n5, .mem (.ar 1 (p1.toList.map eU64)))]) ⟨rfl, rfl, trivial⟩ (Sub.refl _) ?_
                    refine AO.calmG 21 false 41 rfl rfl (congrArg (fun b => some (AV.fl (Value.bool b))) (eq_false_of_ne_true hc17)) 42 rfl (by decide) (.ar 1 (p0.toList.map eU64)) (Calm.load 0 rfl rfl rfl (At.cast At.here rfl) ag27 (by rw [sz27]; simp [AV.size])) ?_
                    exact AO.nilE (ρ' := [(42, (.ar 1 (p0.toList.map eU64)))]) (H' := [(n4, .mem (.ar 1 (p0.toList.map eU64))), (n5, .mem (.ar 1 (p1.toList.map eU64)))]) ⟨⟨_, rfl, rfl⟩, Sub.refl _⟩ ⟨rfl, trivial⟩ (Sub.refl _)
                  · refine AO.weak (ρ' := [(41, (eBool (t16 != (decide ((t8.length : Int) = (0 : Int)))))), (42, (.ar 1 (p0.toList.map eU64)))]) (H' := [(n4, .mem (.ar 1 (p0.toList.map eU64))), (n5, .mem (.ar 1 (p1.toList.map eU64)))]) ⟨rfl, rfl, trivial⟩ (Sub.refl _) ?_
                    refine AO.callG 21 false 41 [(.ar 1 (p0.toList.map eU64))] (eI64 t18) 43 rfl (by decide) ok20 rfl rfl (congrArg (fun b => some (AV.fl (Value.bool b))) (eq_false_of_ne_true hc17)) rfl rfl ⟨rfl, rfl, trivial⟩ (byteset_First_spec et18) ?_
                    exact AO.nilE (ρ' := [(43, (eI64 t18))]) (H' := [(n4, .mem (.ar 1 (p0.toList.map eU64))), (n5, .mem (.ar 1 (p1.toList.map eU64)))]) ⟨⟨_, rfl, rfl⟩, Sub.refl _⟩ ⟨rfl, trivial⟩ (Sub.refl _)
                  · refine AO.weak (ρ' := [(8, (eI64 x9)), (41, (eBool (t16 != (decide ((t8.length : Int) = (0 : Int))))))]) (H' := [(n4, .mem (.ar 1 (p0.toList.map eU64))), (n5, .mem (.ar 1 (p1.toList.map eU64)))]) ⟨rfl, rfl, trivial⟩ (Sub.refl _) ?_
                    refine AO.calmG 21 false 41 rfl rfl (congrArg (fun b => some (AV.fl (Value.bool b))) (eq_false_of_ne_true hc17)) 44 rfl (by decide) (eI64 x9) (Calm.move rfl rfl) ?_
                    exact AO.nilE (ρ' := [(44, (eI64 x9))]) (H' := [(n4, .mem (.ar 1 (p0.toList.map eU64))), (n5, .mem (.ar 1 (p1.toList.map eU64)))]) ⟨⟨_, rfl, rfl⟩, Sub.refl _⟩ ⟨rfl, trivial⟩ (Sub.refl _)
                  · refine AO.weak (ρ' := [(41, (eBool (t16 != (decide ((t8.length : Int) = (0 : Int)))))), (43, (eI64 t18)), (44, (eI64 x9))]) (H' := [(n4, .mem (.ar 1 (p0.toList.map eU64))), (n5, .mem (.ar 1 (p1.toList.map eU64)))]) ⟨rfl, rfl, rfl, trivial⟩ (Sub.refl _) ?_
                    refine AO.calmG 21 false 41 rfl rfl (congrArg (fun b => some (AV.fl (Value.bool b))) (eq_false_of_ne_true hc17)) 45 rfl (by decide) (eBool (decide (t18 ≠ x9))) (Calm.int rfl rfl rfl rfl) ?_
                    exact AO.nilE (ρ' := [(45, (eBool (decide (t18 ≠ x9))))]) (H' := [(n4, .mem (.ar 1 (p0.toList.map eU64))), (n5, .mem (.ar 1 (p1.toList.map eU64)))]) ⟨⟨_, rfl, rfl⟩, Sub.refl _⟩ ⟨rfl, trivial⟩ (Sub.refl _)
                  · refine AO.weak (ρ' := [(41, (eBool (t16 != (decide ((t8.length : Int) = (0 : Int)))))), (45, (eBool (decide (t18 ≠ x9))))]) (H' := [(n4, .mem (.ar 1 (p0.toList.map eU64))), (n5, .mem (.ar 1 (p1.toList.map eU64)))]) ⟨rfl, rfl, trivial⟩ (Sub.refl _) ?_
                    refine AO.calm rfl 46 rfl (by decide) (eBool (decide (t18 ≠ x9))) (Calm.pickF rfl (congrArg (fun b => some (AV.fl (Value.bool b))) (eq_false_of_ne_true hc17)) rfl) ?_
                    exact AO.nilE (ρ' := [(46, (eBool (decide (t18 ≠ x9))))]) (H' := [(n4, .mem (.ar 1 (p0.toList.map eU64))), (n5, .mem (.ar 1 (p1.toList.map eU64)))]) ⟨⟨_, rfl, rfl⟩, Sub.refl _⟩ ⟨rfl, trivial⟩ (Sub.refl _)
                  · refine AO.weak (ρ' := [(46, (eBool (decide (t18 ≠ x9))))]) (H' := [(n4, .mem (.ar 1 (p0.toList.map eU64))), (n5, .mem (.ar 1 (p1.toList.map eU64)))]) ⟨rfl, trivial⟩ (Sub.refl _) ?_
                    refine AO.calm rfl 47 rfl (by decide) (eBool (decide (t18 ≠ x9))) (Calm.move rfl rfl) ?_
                    exact AO.nilE (ρ' := [(47, (eBool (decide (t18 ≠ x9))))]) (H' := [(n4, .mem (.ar 1 (p0.toList.map eU64))), (n5, .mem (.ar 1 (p1.toList.map eU64)))]) ⟨⟨_, rfl, rfl⟩, Sub.refl _⟩ ⟨rfl, trivial⟩ (Sub.refl _)
                  · refine AO.weak (ρ' := [(3, (.ptr n4 0)), (47, (eBool (decide (t18 ≠ x9))))]) (H' := [(n4, .mem (.ar 1 (p0.toList.map eU64))), (n5, .mem (.ar 1 (p1.toList.map eU64)))]) ⟨rfl, rfl, trivial⟩ (Sub.refl _) ?_
                    refine AO.calmG 27 false 47 rfl rfl (congrArg (fun b => some (AV.fl (Value.bool b))) (decide_eq_false hc19)) 48 rfl (by decide) (.ar 1 (p0.toList.map eU64)) (Calm.load 0 rfl rfl rfl (At.cast At.here rfl) ag27 (by rw [sz27]; simp [AV.size])) ?_
                    exact AO.nilE (ρ' := [(48, (.ar 1 (p0.toList.map eU64)))]) (H' := [(n4, .mem (.ar 1 (p0.toList.map eU64))), (n5, .mem (.ar 1 (p1.toList.map eU64)))]) ⟨⟨_, rfl, rfl⟩, Sub.refl _⟩ ⟨rfl, trivial⟩ (Sub.refl _)
                  · refine AO.weak (ρ' := [(2, (eU8 p2)), (47, (eBool (decide (t18 ≠ x9))))]) (H' := [(n4, .mem (.ar 1 (p0.toList.map eU64))), (n5, .mem (.ar 1 (p1.toList.map eU64)))]) ⟨rfl, rfl, trivial⟩ (Sub.refl _) ?_
                    refine AO.calmG 27 false 47 rfl rfl (congrArg (fun b => some (AV.fl (Value.bool b))) (decide_eq_false hc19)) 49 rfl (by decide) (eU8 p2) (Calm.move rfl rfl) ?_
                    exact AO.nilE (ρ' := [(49, (eU8 p2))]) (H' := [(n4, .mem (.ar 1 (p0.toList.map eU64))), (n5, .mem (.ar 1 (p1.toList.map eU64)))]) ⟨⟨_, rfl, rfl⟩, Sub.refl _⟩ ⟨rfl, trivial⟩ (Sub.refl _)
                  · refine AO.weak (ρ' := [(47, (eBool (decide (t18 ≠ x9)))), (48, (.ar 1 (p0.toList.map eU64))), (49, (eU8 p2))]) (H' := [(n4, .mem (.ar 1 (p0.toList.map eU64))), (n5, .mem (.ar 1 (p1.toList.map eU64)))]) ⟨rfl, rfl, rfl, trivial⟩ (Sub.refl _) ?_
                    refine AO.callG 27 false 47 [(.ar 1 (p0.toList.map eU64)), (eU8 p2)] (eBool t20) 50 rfl (by decide) ok21 rfl rfl (congrArg (fun b => some (AV.fl (Value.bool b))) (decide_eq_false hc19)) rfl rfl ⟨rfl, rfl, rfl, rfl, trivial⟩ (byteset_Has_spec et20) ?_
                    exact AO.nilE (ρ' := [(50, (eBool t20))]) (H' := [(n4, .mem (.ar 1 (p0.toList.map eU64))), (n5, .mem (.ar 1 (p1.toList.map eU64)))]) ⟨⟨_, rfl, rfl⟩, Sub.refl _⟩ ⟨rfl, trivial⟩ (Sub.refl _)
                  · refine AO.weak (ρ' := [(3, (.ptr n4 0)), (47, (eBool (decide (t18 ≠ x9))))]) (H' := [(n4, .mem (.ar 1 (p0.toList.map eU64))), (n5, .mem (.ar 1 (p1.toList.map eU64)))]) ⟨rfl, rfl, trivial⟩ (Sub.refl _) ?_
                    refine AO.calmG 27 false 47 rfl rfl (congrArg (fun b => some (AV.fl (Value.bool b))) (decide_eq_false hc19)) 51 rfl (by decide) (.ar 1 (p0.toList.map eU64)) (Calm.load 0 rfl rfl rfl (At.cast At.here rfl) ag27 (by rw [sz27]; simp [AV.size])) ?_
                    exact AO.nilE (ρ' := [(51, (.ar 1 (p0.toList.map eU64)))]) (H' := [(n4, .mem (.ar 1 (p0.toList.map eU64))), (n5, .mem (.ar 1 (p1.toList.map eU64)))]) ⟨⟨_, rfl, rfl⟩, Sub.refl _⟩ ⟨rfl, trivial⟩ (Sub.refl _)
                  · refine AO.weak (ρ' := [(2, (eU8 p2)), (47, (eBool (decide (t18 ≠ x9))))]) (H' := [(n4, .mem (.ar 1 (p0.toList.map eU64))), (n5, .mem (.ar 1 (p1.toList.map eU64)))]) ⟨rfl, rfl, trivial⟩ (Sub.refl _) ?_
                    refine AO.calmG 27 false 47 rfl rfl (congrArg (fun b => some (AV.fl (Value.bool b))) (decide_eq_false hc19)) 52 rfl (by decide) (eU8 p2) (Calm.move rfl rfl) ?_
                    exact AO.nilE (ρ' := [(52, (eU8 p2))]) (H' := [(n4, .mem (.ar 1 (p0.toList.map eU64))), (n5, .mem (.ar 1 (p1.toList.map eU64)))]) ⟨⟨_, rfl, rfl⟩, Sub.refl _⟩ ⟨rfl, trivial⟩ (Sub.refl _)
                  · refine AO.weak (ρ' := [(47, (eBool (decide (t18 ≠ x9)))), (52, (eU8 p2))]) (H' := [(n4, .mem (.ar 1 (p0.toList.map eU64))), (n5, .mem (.ar 1 (p1.toList.map eU64)))]) ⟨rfl, rfl, trivial⟩ (Sub.refl _) ?_
                    refine AO.calmG 27 false 47 rfl rfl (congrArg (fun b => some (AV.fl (Value.bool b))) (decide_eq_false hc19)) 53 rfl (by decide) (eI64 (w64 p2)) (Calm.conv rfl rfl Tryd.underlying5 Tryd.underlying3) ?_
                    exact AO.nilE (ρ' := [(53, (eI64 (w64 p2)))]) (H' := [(n4, .mem (.ar 1 (p0.toList.map eU64))), (n5, .mem (.ar 1 (p1.toList.map eU64)))]) ⟨⟨_, rfl, rfl⟩, Sub.refl _⟩ ⟨rfl, trivial⟩ (Sub.refl _)
                  · refine AO.weak (ρ' := [(47, (eBool (decide (t18 ≠ x9)))), (51, (.ar 1 (p0.toList.map eU64))), (53, (eI64 (w64 p2)))]) (H' := [(n4, .mem (.ar 1 (p0.toList.map eU64))), (n5, .mem (.ar 1 (p1.toList.map eU64)))]) ⟨rfl, rfl, rfl, trivial⟩ (Sub.refl _) ?_
                    refine AO.callG 27 false 47 [(.ar 1 (p0.toList.map eU64)), (eI64 (w64 p2))] (eBool t21) 54 rfl (by decide) ok22 rfl rfl (congrArg (fun b => some (AV.fl (Value.bool b))) (decide_eq_false hc19)) rfl rfl ⟨rfl, rfl, rfl, rfl, trivial⟩ (bosketref02_Has_spec et21) ?_
                    exact AO.nilE (ρ' := [(54, (eBool t21))]) (H' := [(n4, .mem (.ar 1 (p0.toList.map eU64))), (n5, .mem (.ar 1 (p1.toList.map eU64)))]) ⟨⟨_, rfl, rfl⟩, Sub.refl _⟩ ⟨rfl, trivial⟩ (Sub.refl _)
                  · refine AO.weak (ρ' := [(47, (eBool (decide (t18 ≠ x9)))), (50, (eBool t20)), (54, (eBool t21))]) (H' := [(n4, .mem (.ar 1 (p0.toList.map eU64))), (n5, .mem (.ar 1 (p1.toList.map eU64)))]) ⟨rfl, rfl, rfl, trivial⟩ (Sub.refl _) ?_
                    refine AO.calmG 27 false 47 rfl rfl (congrArg (fun b => some (AV.fl (Value.bool b))) (decide_eq_false hc19)) 55 rfl (by decide) (eBool (t20 != t21)) (Calm.boolNe rfl rfl rfl Tryd.underlying4) ?_
                    exact AO.nilE (ρ' := [(55, (eBool (t20 != t21)))]) (H' := [(n4, .mem (.ar 1 (p0.toList.map eU64))), (n5, .mem (.ar 1 (p1.toList.map eU64)))]) ⟨⟨_, rfl, rfl⟩, Sub.refl _⟩ ⟨rfl, trivial⟩ (Sub.refl _)
                  · refine AO.weak (ρ' := [(47, (eBool (decide (t18 ≠ x9)))), (55, (eBool (t20 != t21)))]) (H' := [(n4, .mem (.ar 1 (p0.toList.map eU64))), (n5, .mem (.ar 1 (p1.toList.map eU64)))]) ⟨rfl, rfl, trivial⟩ (Sub.refl _) ?_
                    refine AO.calm rfl 56 rfl (by decide) (eBool (t20 != t21)) (Calm.pickF rfl (congrArg (fun b => some (AV.fl (Value.bool b))) (decide_eq_false hc19)) rfl) ?_
                    exact AO.nilE (ρ' := [(56, (eBool (t20 != t21)))]) (H' := [(n4, .mem (.ar 1 (p0.toList.map eU64))), (n5, .mem (.ar 1 (p1.toList.map eU64)))]) ⟨⟨_, rfl, rfl⟩, Sub.refl _⟩ ⟨rfl, trivial⟩ (Sub.refl _)
                · cases hq11
                  exact ⟨rfl, rfl, rfl⟩
      · by_cases hc22 : b10 = true
        · have h := (if_pos hc22).symm.trans h
          refine AW.condT' b10 rfl hc22 ?_
          refine AW.seq ?_
          refine AW.reg ?_
          refine AO.calm rfl 6 rfl (by decide) (eBool false) (Calm.assign rfl rfl) ?_
          refine AO.nil (ρ' := [(6, (eBool false))]) (H' := []) ⟨rfl, trivial⟩ (Sub.nil _) ?_
          refine AW.ret (ρ' := [(6, (eBool false))]) (H' := []) ⟨rfl, trivial⟩ (Sub.refl _) ?_
          have hr := Option.some.inj h
          subst hr
          exact ⟨[(eBool false)], ⟨rfl, rfl, trivial⟩, rfl⟩
        · have h := (if_neg hc22).symm.trans h
          refine AW.condF' b10 rfl hc22 ?_
          refine AW.skip (ρ' := [(3, (.ptr n4 0)), (4, (.ptr n5 0))]) (H' := [(n4, .mem (.ar 1 (p0.toList.map eU64))), (n5, .mem (.ar 1 (p1.toList.map eU64)))]) ⟨rfl, rfl, trivial⟩ (Sub.refl _) ?_
          refine AW.seq ?_
          obtain ⟨b23, hq24, h⟩ := of_bind h
          refine AW.toM [(6, (eBool b23))] [] ?_ ?_
          · obtain ⟨t25, et25, hq24⟩ := of_bind hq24
            obtain ⟨t26, et26, hq24⟩ := of_bind hq24
            by_cases hc27 : t25 = t26
            · have hq24 := (if_pos hc27).symm.trans hq24
              obtain ⟨t28, et28, hq24⟩ := of_bind hq24
              obtain ⟨t29, et29, hq24⟩ := of_bind hq24
              by_cases hc30 : t28 = t29
              · have hq24 := (if_pos hc30).symm.trans hq24
                obtain ⟨t31, et31, hq24⟩ := of_bind hq24
                obtain ⟨t32, et32, hq24⟩ := of_bind hq24
                by_cases hc33 : t31 = t32
                · have hq24 := (if_pos hc33).symm.trans hq24
                  obtain ⟨t34, et34, hq24⟩ := of_bind hq24
                  obtain ⟨t35, et35, hq24⟩ := of_bind hq24
                  by_cases hc36 : t34 = t35
                  · have hq24 := (if_pos hc36).symm.trans hq24
                    obtain ⟨t37, et37, hq24⟩ := of_bind hq24
                    obtain ⟨t38, et38, hq24⟩ := of_bind hq24
                    refine AW.regAny (by rfl) (by decide +kernel) [(.ar 1 (p0.toList.map eU64)), (.ar 1 (p1.toList.map eU64)), (.ar 1 (t25.toList.map eU64)), (.ar 1 (p0.toList.map eU64)), (.ar 1 (p1.toList.map eU64)), (.ar 1 (t26.toList.map eU64)), (eBool (decide (t25 = t26))), (eBool (decide (t25 = t26))), (.ar 1 (p0.toList.map eU64)), (.ar 1 (p1.toList.map eU64)), (.ar 1 (t28.toList.map eU64)), (.ar 1 (p0.toList.map eU64)), (.ar 1 (p1.toList.map eU64)), (.ar 1 (t29.toList.map eU64)), (eBool (decide (t28 = t29))), (eBool (decide (t28 = t29))), (eBool (decide (t28 = t29))), (.ar 1 (p0.toList.map eU64)), (.ar 1 (p1.toList.map eU64)), (.ar 1 (t31.toList.map eU64)), (.ar 1 (p0.toList.map eU64)), (.ar 1 (p1.toList.map eU64)), (.ar 1 (t32.toList.map eU64)), (eBool (decide (t31 = t32))), (eBool (decide (t31 = t32))), (eBool (decide (t31 = t32))), (.ar 1 (p0.toList.map eU64)), (.ar 1 (t34.toList.map eU64)), (.ar 1 (p0.toList.map eU64)), (.ar 1 (p1.toList.map eU64)), (.ar 1 (t35.toList.map eU64)), (eBool (decide (t34 = t35))), (eBool (decide (t34 = t35))), (eBool (decide (t34 = t35))), (.ar 1 (t37.toList.map eU64)), (.ar 1 ((Vector.replicate 4 (0 : Int)).toList.map eU64)), (.ar 1 (p1.toList.map eU64)), (.ar 1 (t38.toList.map eU64)), (eBool (decide (t37 = t38))), (eBool (decide (t37 = t38))), (eBool (decide (t37 = t38)))] [(3, (.ptr n4 0)), (4, (.ptr n5 0))] ⟨rfl, rfl, trivial⟩ rfl ?_ [(6, (eBool (decide (t37 = t38))))] [] ⟨rfl, trivial⟩ (Sub.nil _) ?_
                    · refine ⟨?_, ?_, ?_, ?_, ?_, ?_, ?_, ?_, ?_, ?_, ?_, ?_, ?_, ?_, ?_, ?_, ?_, ?_, ?_, ?_, ?_, ?_, ?_, ?_, ?_, ?_, ?_, ?_, ?_, ?_, ?_, ?_, ?_, ?_, ?_, ?_, ?_, ?_, ?_, ?_, ?_, trivial⟩
                      · refine AO.weak (ρ' := [(3, (.ptr n4 0))]) (H' := [(n4, .mem (.ar 1 (p0.toList.map eU64))), (n5, .mem (.ar 1 (p1.toList.map eU64)))]) ⟨rfl, trivial⟩ (Sub.refl _) ?_
                        refine AO.calm rfl 57 rfl (by decide) (.ar 1 (p0.toList.map eU64)) (Calm.load 0 rfl rfl rfl (At.cast At.here rfl) ag27 (by rw [sz27]; simp [AV.size])) ?_
                        exact AO.nilE (ρ' := [(57, (.ar 1 (p0.toList.map eU64)))]) (H' := [(n4, .mem (.ar 1 (p0.toList.map eU64))), (n5, .mem (.ar 1 (p1.toList.map eU64)))]) ⟨⟨_, rfl, rfl⟩, Sub.refl _⟩ ⟨rfl, trivial⟩ (Sub.refl _)
                      · refine AO.weak (ρ' := [(4, (.ptr n5 0))]) (H' := [(n4, .mem (.ar 1 (p0.toList.map eU64))), (n5, .mem (.ar 1 (p1.toList.map eU64)))]) ⟨rfl, trivial⟩ (Sub.refl _) ?_
                        refine AO.calm rfl 58 rfl (by decide) (.ar 1 (p1.toList.map eU64)) (Calm.load 1 rfl rfl rfl (At.cast At.here rfl) ag27 (by rw [sz27]; simp [AV.size])) ?_
                        exact AO.nilE (ρ' := [(58, (.ar 1 (p1.toList.map eU64)))]) (H' := [(n4, .mem (.ar 1 (p0.toList.map eU64))), (n5, .mem (.ar 1 (p1.toList.map eU64)))]) ⟨⟨_, rfl, rfl⟩, Sub.refl _⟩ ⟨rfl, trivial⟩ (Sub.refl _)
                      · refine AO.weak (ρ' := [(57, (.ar 1 (p0.toList.map eU64))), (58, (.ar 1 (p1.toList.map eU64)))]) (H' := [(n4, .mem (.ar 1 (p0.toList.map eU64))), (n5, .mem (.ar 1 (p1.toList.map eU64)))]) ⟨rfl, rfl, trivial⟩ (Sub.refl _) ?_
                        refine AO.callS [(.ar 1 (p0.toList.map eU64)), (.ar 1 (p1.toList.map eU64))] (.ar 1 (t25.toList.map eU64)) 59 rfl (by decide) ok12 rfl rfl rfl ⟨rfl, rfl, rfl, rfl, trivial⟩ (byteset_Or_spec et25) ?_
                        exact AO.nilE (ρ' := [(59, (.ar 1 (t25.toList.map eU64)))]) (H' := [(n4, .mem (.ar 1 (p0.toList.map eU64))), (n5, .mem (.ar 1 (p1.toList.map eU64)))]) ⟨⟨_, rfl, rfl⟩, Sub.refl _⟩ ⟨rfl, trivial⟩ (Sub.refl _)
                      · refine AO.weak (ρ' := [(3, (.ptr n4 0))]) (H' := [(n4, .mem (.ar 1 (p0.toList.map eU64))), (n5, .mem (.ar 1 (p1.toList.map eU64)))]) ⟨rfl, trivial⟩ (Sub.refl _) ?_
                        refine AO.calm rfl 60 rfl (by decide) (.ar 1 (p0.toList.map eU64)) (Calm.load 0 rfl rfl rfl (At.cast At.here rfl) ag27 (by rw [sz27]; simp [AV.size])) ?_
                        exact AO.nilE (ρ' := [(60, (.ar 1 (p0.toList.map eU64)))]) (H' := [(n4, .mem (.ar 1 (p0.toList.map eU64))), (n5, .mem (.ar 1 (p1.toList.map eU64)))]) ⟨⟨_, rfl, rfl⟩, Sub.refl _⟩ ⟨rfl, trivial⟩ (Sub.refl _)
                      · refine AO.weak (ρ' := [(4, (.ptr n5 0))]) (H' := [(n4, .mem (.ar 1 (p0.toList.map eU64))), (n5, .mem (.ar 1 (p1.toList.map eU64)))]) ⟨rfl, trivial⟩ (Sub.refl _) ?_
                        refine AO.calm rfl 61 rfl (by decide) (.ar 1 (p1.toList.map eU64)) (Calm.load 1 rfl rfl rfl (At.cast At.here rfl) ag27 (by rw [sz27]; simp [AV.size])) ?_
                        exact AO.nilE (ρ' := [(61, (.ar 1 (p1.toList.map eU64)))]) (H' := [(n4, .mem (.ar 1 (p0.toList.map eU64))), (n5, .mem (.ar 1 (p1.toList.map eU64)))]) ⟨⟨_, rfl, rfl⟩, Sub.refl _⟩ ⟨rfl, trivial⟩ (Sub.refl _)
                      · refine AO.weak (ρ' := [(60, (.ar 1 (p0.toList.map eU64))), (61, (.ar 1 (p1.toList.map eU64)))]) (H' := [(n4, .mem (.ar 1 (p0.toList.map eU64))), (n5, .mem (.ar 1 (p1.toList.map eU64)))]) ⟨rfl, rfl, trivial⟩ (Sub.refl _) ?_
                        refine AO.callS [(eI64 (0 : Int)), (.ar 1 (p0.toList.map eU64)), (.ar 1 (p1.toList.map eU64))] (.ar 1 (t26.toList.map eU64)) 62 rfl (by decide) ok23 rfl rfl rfl ⟨rfl, rfl, rfl, rfl, rfl, rfl, trivial⟩ (bosketref02_Put_spec et26) ?_
                        exact AO.nilE (ρ' := [(62, (.ar 1 (t26.toList.map eU64)))]) (H' := [(n4, .mem (.ar 1 (p0.toList.map eU64))), (n5, .mem (.ar 1 (p1.toList.map eU64)))]) ⟨⟨_, rfl, rfl⟩, Sub.refl _⟩ ⟨rfl, trivial⟩ (Sub.refl _)
                      · refine AO.weak (ρ' := [(59, (.ar 1 (t25.toList.map eU64))), (62, (.ar 1 (t26.toList.map eU64)))]) (H' := [(n4, .mem (.ar 1 (p0.toList.map eU64))), (n5, .mem (.ar 1 (p1.toList.map eU64)))]) ⟨rfl, rfl, trivial⟩ (Sub.refl _) ?_
                        refine AO.calm rfl 63 rfl (by decide) (eBool (decide (t25 = t26))) (Calm.eqA rfl rfl rfl eg27 (eqa27 t25 t26) (by decide)) ?_
                        exact AO.nilE (ρ' := [(63, (eBool (decide (t25 = t26))))]) (H' := [(n4, .mem (.ar 1 (p0.toList.map eU64))), (n5, .mem (.ar 1 (p1.toList.map eU64)))]) ⟨⟨_, rfl, rfl⟩, Sub.refl _⟩ ⟨rfl, trivial⟩ (Sub.refl _)
                      · refine AO.weak (ρ' := [(63, (eBool (decide (t25 = t26))))]) (H' := [(n4, .mem (.ar 1 (p0.toList.map eU64))), (n5, .mem (.ar 1 (p1.toList.map eU64)))]) ⟨rfl, trivial⟩ (Sub.refl _) ?_
                        refine AO.calm rfl 64 rfl (by decide) (eBool (decide (t25 = t26))) (Calm.move rfl rfl) ?_
                        exact AO.nilE (ρ' := [(64, (eBool (decide (t25 = t26))))]) (H' := [(n4, .mem (.ar 1 (p0.toList.map eU64))), (n5, .mem (.ar 1 (p1.toList.map eU64)))]) ⟨⟨_, rfl, rfl⟩, Sub.refl _⟩ ⟨rfl, trivial⟩ (Sub.refl _)
                      · refine AO.weak (ρ' := [(3, (.ptr n4 0)), (64, (eBool (decide (t25 = t26))))]) (H' := [(n4, .mem (.ar 1 (p0.toList.map eU64))), (n5, .mem (.ar 1 (p1.toList.map eU64)))]) ⟨rfl, rfl, trivial⟩ (Sub.refl _) ?_
                        refine AO.calmG 7 true 64 rfl rfl (congrArg (fun b => some (AV.fl (Value.bool b))) (decide_eq_true hc27)) 65 rfl (by decide) (.ar 1 (p0.toList.map eU64)) (Calm.load 0 rfl rfl rfl (At.cast At.here rfl) ag27 (by rw [sz27]; simp [AV.size])) ?_
                        exact AO.nilE (ρ' := [(65, (.ar 1 (p0.toList.map eU64)))]) (H' := [(n4, .mem (.ar 1 (p0.toList.map eU64))), (n5, .mem (.ar 1 (p1.toList.map eU64)))]) ⟨⟨_, rfl, rfl⟩, Sub.refl _⟩ ⟨rfl, trivial⟩ (Sub.refl _)
                      · refine AO.weak (ρ' := [(4, (.ptr n5 0)), (64, (eBool (decide (t25 = t26))))]) (H' := [(n4, .mem (.ar 1 (p0.toList.map eU64))), (n5, .mem (.ar 1 (p1.toList.map eU64)))]) ⟨rfl, rfl, trivial⟩ (Sub.refl _) ?_
                        refine AO.calmG 7 true 64 rfl rfl (congrArg (fun b => some (AV.fl (Value.bool b))) (decide_eq_true hc27)) 66 rfl (by decide) (.ar 1 (p1.toList.map eU64)) (Calm.load 1 rfl rfl rfl (At.cast At.here rfl) ag27 (by rw [sz27]; simp [AV.size])) ?_
                        exact AO.nilE (ρ' := [(66, (.ar 1 (p1.toList.map eU64)))]) (H' := [(n4, .mem (.ar 1 (p0.toList.map eU64))), (n5, .mem (.ar 1 (p1.toList.map eU64)))]) ⟨⟨_, rfl, rfl⟩, Sub.refl _⟩ ⟨rfl, trivial⟩ (Sub.refl _)
                      · refine AO.weak (ρ' := [(64, (eBool (decide (t25 = t26)))), (65, (.ar 1 (p0.toList.map eU64))), (66, (.ar 1 (p1.toList.map eU64)))]) (H' := [(n4, .mem (.ar 1 (p0.toList.map eU64))), (n5, .mem (.ar 1 (p1.toList.map eU64)))]) ⟨rfl, rfl, rfl, trivial⟩ (Sub.refl _) ?_
                        refine AO.callG 7 true 64 [(.ar 1 (p0.toList.map eU64)), (.ar 1 (p1.toList.map eU64))] (.ar 1 (t28.toList.map eU64)) 67 rfl (by decide) ok24 rfl rfl (congrArg (fun b => some (AV.fl (Value.bool b))) (decide_eq_true hc27)) rfl rfl ⟨rfl, rfl, rfl, rfl, trivial⟩ (byteset_And_spec et28) ?_
                        exact AO.nilE (ρ' := [(67, (.ar 1 (t28.toList.map eU64)))]) (H' := [(n4, .mem (.ar 1 (p0.toList.map eU64))), (n5, .mem (.ar 1 (p1.toList.map eU64)))]) ⟨⟨_, rfl, rfl⟩, Sub.refl _⟩ ⟨rfl, trivial⟩ (Sub.refl _)
                      · refine AO.weak (ρ' := [(3, (.ptr n4 0)), (64, (eBool (decide (t25 = t26))))]) (H' := [(n4, .mem (.ar 1 (p0.toList.map eU64))), (n5, .mem (.ar 1 (p1.toList.map eU64)))]) ⟨rfl, rfl, trivial⟩ (Sub.refl _) ?_
                        refine AO.calmG 7 true 64 rfl rfl (congrArg (fun b => some (AV.fl (Value.bool b))) (decide_eq_true hc27)) 68 rfl (by decide) (.ar 1 (p0.toList.map eU64)) (Calm.load 0 rfl rfl rfl (At.cast At.here rfl) ag27 (by rw [sz27]; simp [AV.size])) ?_
                        exact AO.nilE (ρ' := [(68, (.ar 1 (p0.toList.map eU64)))]) (H' := [(n4, .mem (.ar 1 (p0.toList.map eU64))), (n5, .mem (.ar 1 (p1.toList.map eU64)))]) ⟨⟨_, rfl, rfl⟩, Sub.refl _⟩ ⟨rfl, trivial⟩ (Sub.refl _)
                      · refine AO.weak (ρ' := [(4, (.ptr n5 0)), (64, (eBool (decide (t25 = t26))))]) (H' := [(n4, .mem (.ar 1 (p0.toList.map eU64))), (n5, .mem (.ar 1 (p1.toList.map eU64)))]) ⟨rfl, rfl, trivial⟩ (Sub.refl _) ?_
                        refine AO.calmG 7 true 64 rfl rfl (congrArg (fun b => some (AV.fl (Value.bool b))) (decide_eq_true hc27)) 69 rfl (by decide) (.ar 1 (p1.toList.map eU64)) (Calm.load 1 rfl rfl rfl (At.cast At.here rfl) ag27 (by rw [sz27]; simp [AV.size])) ?_
                        exact AO.nilE (ρ' := [(69, (.ar 1 (p1.toList.map eU64)))]) (H' := [(n4, .mem (.ar 1 (p0.toList.map eU64))), (n5, .mem (.ar 1 (p1.toList.map eU64)))]) ⟨⟨_, rfl, rfl⟩, Sub.refl _⟩ ⟨rfl, trivial⟩ (Sub.refl _)
                      · refine AO.weak (ρ' := [(64, (eBool (decide (t25 = t26)))), (68, (.ar 1 (p0.toList.map eU64))), (69, (.ar 1 (p1.toList.map eU64)))]) (H' := [(n4, .mem (.ar 1 (p0.toList.map eU64))), (n5, .mem (.ar 1 (p1.toList.map eU64)))]) ⟨rfl, rfl, rfl, trivial⟩ (Sub.refl _) ?_
                        refine AO.callG 7 true 64 [(eI64 (1 : Int)), (.ar 1 (p0.toList.map eU64)), (.ar 1 (p1.toList.map eU64))] (.ar 1 (t29.toList.map eU64)) 70 rfl (by decide) ok23 rfl rfl (congrArg (fun b => some (AV.fl (Value.bool b))) (decide_eq_true hc27)) rfl rfl ⟨rfl, rfl, rfl, rfl, rfl, rfl, trivial⟩ (bosketref02_Put_spec et29) ?_
                        exact AO.nilE (ρ' := [(70, (.ar 1 (t29.toList.map eU64)))]) (H' := [(n4, .mem (.ar 1 (p0.toList.map eU64))), (n5, .mem (.ar 1 (p1.toList.map eU64)))]) ⟨⟨_, rfl, rfl⟩, Sub.refl _⟩ ⟨rfl, trivial⟩ (Sub.refl _)
                      · refine AO.weak (ρ' := [(64, (eBool (decide (t25 = t26)))), (67, (.ar 1 (t28.toList.map eU64))), (70, (.ar 1 (t29.toList.map eU64)))]) (H' := [(n4, .mem (.ar 1 (p0.toList.map eU64))), (n5, .mem (.ar 1 (p1.toList.map eU64)))]) ⟨rfl, rfl, rfl, trivial⟩ (Sub.refl _) ?_
                        refine AO.calmG 7 true 64 rfl rfl (congrArg (fun b => some (AV.fl (Value.bool b))) (decide_eq_true hc27)) 71 rfl (by decide) (eBool (decide (t28 = t29))) (Calm.eqA rfl rfl rfl eg27 (eqa27 t28 t29) (by decide)) ?_
                        exact AO.nilE (ρ' := [(71, (eBool (decide (t28 = t29))))]) (H' := [(n4, .mem (.ar 1 (p0.toList.map eU64))), (n5, .mem (.ar 1 (p1.toList.map eU64)))]) ⟨⟨_, rfl, rfl⟩, Sub.refl _⟩ ⟨rfl, trivial⟩ (Sub.refl _)
                      · refine AO.weak (ρ' := [(64, (eBool (decide (t25 = t26)))), (71, (eBool (decide (t28 = t29))))]) (H' := [(n4, .mem (.ar 1 (p0.toList.map eU64))), (n5, .mem (.ar 1 (p1.toList.map eU64)))]) ⟨rfl, rfl, trivial⟩ (Sub.refl _) ?_
                        refine AO.calm rfl 72 rfl (by decide) (eBool (decide (t28 = t29))) (Calm.pickT rfl (congrArg (fun b => some (AV.fl (Value.bool b))) (decide_eq_true hc27)) rfl) ?_
                        exact AO.nilE (ρ' := [(72, (eBool (decide (t28 = t29))))]) (H' := [(n4, .mem (.ar 1 (p0.toList.map eU64))), (n5, .mem (.ar 1 (p1.toList.map eU64)))]) ⟨⟨_, rfl, rfl⟩, Sub.refl _⟩ ⟨rfl, trivial⟩ (Sub.refl _)
                      · refine AO.weak (ρ' := [(72, (eBool (decide (t28 = t29))))]) (H' := [(n4, .mem (.ar 1 (p0.toList.map eU64))), (n5, .mem (.ar 1 (p1.toList.map eU64)))]) ⟨rfl, trivial⟩ (Sub.refl _) ?_
                        refine AO.calm rfl 73 rfl (by decide) (eBool (decide (t28 = t29))) (Calm.move rfl rfl) ?_
                        exact AO.nilE (ρ' := [(73, (eBool (decide (t28 = t29))))]) (H' := [(n4, .mem (.ar 1 (p0.toList.map eU64))), (n5, .mem (.ar 1 (p1.toList.map eU64)))]) ⟨⟨_, rfl, rfl⟩, Sub.refl _⟩ ⟨rfl, trivial⟩ (Sub.refl _)
                      · refine AO.weak (ρ' := [(3, (.ptr n4 0)), (73, (eBool (decide (t28 = t29))))]) (H' := [(n4, .mem (.ar 1 (p0.toList.map eU64))), (n5, .mem (.ar 1 (p1.toList.map eU64)))]) ⟨rfl, rfl, trivial⟩ (Sub.refl _) ?_
                        refine AO.calmG 16 true 73 rfl rfl (congrArg (fun b => some (AV.fl (Value.bool b))) (decide_eq_true hc30)) 74 rfl (by decide) (.ar 1 (p0.toList.map eU64)) (Calm.load 0 rfl rfl rfl (At.cast At.here rfl) ag27 (by rw [sz27]; simp [AV.size])) ?_
                        exact AO.nilE (ρ' := [(74, (.ar 1 (p0.toList.map eU64)))]) (H' := [(n4, .mem (.ar 1 (p0.toList.map eU64))), (n5, .mem (.ar 1 (p1.toList.map eU64)))]) ⟨⟨_, rfl, rfl⟩, Sub.refl _⟩ ⟨rfl, trivial⟩ (Sub.refl _)
                      · refine AO.weak (ρ' := [(4, (.ptr n5 0)), (73, (eBool (decide (t28 = t29))))]) (H' := [(n4, .mem (.ar 1 (p0.toList.map eU64))), (n5, .mem (.ar 1 (p1.toList.map eU64)))]) ⟨rfl, rfl, trivial⟩ (Sub.refl _) ?_
                        refine AO.calmG 16 true 73 rfl rfl (congrArg (fun b => some (AV.fl (Value.bool b))) (decide_eq_true hc30)) 75 rfl (by decide) (.ar 1 (p1.toList.map eU64)) (Calm.load 1 rfl rfl rfl (At.cast At.here rfl) ag27 (by rw [sz27]; simp [AV.size])) ?_
                        exact AO.nilE (ρ' := [(75, (.ar 1 (p1.toList.map eU64)))]) (H' := [(n4, .mem (.ar 1 (p0.toList.map eU64))), (n5, .mem (.ar 1 (p1.toList.map eU64)))]) ⟨⟨_, rfl, rfl⟩, Sub.refl _⟩ ⟨rfl, trivial⟩ (Sub.refl _)
                      · refine AO.weak (ρ' := [(73, (eBool (decide (t28 = t29)))), (74, (.ar 1 (p0.toList.map eU64))), (75, (.ar 1 (p1.toList.map eU64)))]) (H' := [(n4, .mem (.ar 1 (p0.toList.map eU64))), (n5, .mem (.ar 1 (p1.toList.map eU64)))]) ⟨rfl, rfl, rfl, trivial⟩ (Sub.refl _) ?_
                        refine AO.callG 16 true 73 [(.ar 1 (p0.toList.map eU64)), (.ar 1 (p1.toList.map eU64))] (.ar 1 (t31.toList.map eU64)) 76 rfl (by decide) ok25 rfl rfl (congrArg (fun b => some (AV.fl (Value.bool b))) (decide_eq_true hc30)) rfl rfl ⟨rfl, rfl, rfl, rfl, trivial⟩ (byteset_Less_spec et31) ?_
                        exact AO.nilE (ρ' := [(76, (.ar 1 (t31.toList.map eU64)))]) (H' := [(n4, .mem (.ar 1 (p0.toList.map eU64))), (n5, .mem (.ar 1 (p1.toList.map eU64)))]) ⟨⟨_, rfl, rfl⟩, Sub.refl _⟩ ⟨rfl, trivial⟩ (Sub.refl _)
                      · refine AO.weak (ρ' := [(3, (.ptr n4 0)), (73, (eBool (decide (t28 = t29))))]) (H' := [(n4, .mem (.ar 1 (p0.toList.map eU64))), (n5, .mem (.ar 1 (p1.toList.map eU64)))]) ⟨rfl, rfl, trivial⟩ (Sub.refl _) ?_
                        refine AO.calmG 16 true 73 rfl rfl (congrArg (fun b => some (AV.fl (Value.bool b))) (decide_eq_true hc30)) 77 rfl (by decide) (.ar 1 (p0.toList.map eU64)) (Calm.load 0 rfl rfl rfl (At.cast At.here rfl) ag27 (by rw [sz27]; simp [AV.size])) ?_
                        exact AO.nilE (ρ' := [(77, (.ar 1 (p0.toList.map eU64)))]) (H' := [(n4, .mem (.ar 1 (p0.toList.map eU64))), (n5, .mem (.ar 1 (p1.toList.map eU64)))]) ⟨⟨_, rfl, rfl⟩, Sub.refl _⟩ ⟨rfl, trivial⟩ (Sub.refl _)
                      · refine AO.weak (ρ' := [(4, (.ptr n5 0)), (73, (eBool (decide (t28 = t29))))]) (H' := [(n4, .mem (.ar 1 (p0.toList.map eU64))), (n5, .mem (.ar 1 (p1.toList.map eU64)))]) ⟨rfl, rfl, trivial⟩ (Sub.refl _) ?_
                        refine AO.calmG 16 true 73 rfl rfl (congrArg (fun b => some (AV.fl (Value.bool b))) (decide_eq_true hc30)) 78 rfl (by decide) (.ar 1 (p1.toList.map eU64)) (Calm.load 1 rfl rfl rfl (At.cast At.here rfl) ag27 (by rw [sz27]; simp [AV.size])) ?_
                        exact AO.nilE (ρ' := [(78, (.ar 1 (p1.toList.map eU64)))]) (H' := [(n4, .mem (.ar 1 (p0.toList.map eU64))), (n5, .mem (.ar 1 (p1.toList.map eU64)))]) ⟨⟨_, rfl, rfl⟩, Sub.refl _⟩ ⟨rfl, trivial⟩ (Sub.refl _)
                      · refine AO.weak (ρ' := [(73, (eBool (decide (t28 = t29)))), (77, (.ar 1 (p0.toList.map eU64))), (78, (.ar 1 (p1.toList.map eU64)))]) (H' := [(n4, .mem (.ar 1 (p0.toList.map eU64))), (n5, .mem (.ar 1 (p1.toList.map eU64)))]) ⟨rfl, rfl, rfl, trivial⟩ (Sub.refl _) ?_
                        refine AO.callG 16 true 73 [(eI64 (2 : Int)), (.ar 1 (p0.toList.map eU64)), (.ar 1 (p1.toList.map eU64))] (.ar 1 (t32.toList.map eU64)) 79 rfl (by decide) ok23 rfl rfl (congrArg (fun b => some (AV.fl (Value.bool b))) (decide_eq_true hc30)) rfl rfl ⟨rfl, rfl, rfl, rfl, rfl, rfl, trivial⟩ (bosketref02_Put_spec et32) ?_
                        exact AO.nilE (ρ' := [(79, (.ar 1 (t32.toList.map eU64)))]) (H' := [(n4, .mem (.ar 1 (p0.toList.map eU64))), (n5, .mem (.ar 1 (p1.toList.map eU64)))]) ⟨⟨_, rfl, rfl⟩, Sub.refl _⟩ ⟨rfl, trivial⟩ (Sub.refl _)
                      · refine AO.weak (ρ' := [(73, (eBool (decide (t28 = t29)))), (76, (.ar 1 (t31.toList.map eU64))), (79, (.ar 1 (t32.toList.map eU64)))]) (H' := [(n4, .mem (.ar 1 (p0.toList.map eU64))), (n5, .mem (.ar 1 (p1.toList.map eU64)))]) ⟨rfl, rfl, rfl, trivial⟩ (Sub.refl _) ?_
                        refine AO.calmG 16 true 73 rfl rfl (congrArg (fun b => some (AV.fl (Value.bool b))) (decide_eq_true hc30)) 80 rfl (by decide) (eBool (decide (t31 = t32))) (Calm.eqA rfl rfl rfl eg27 (eqa27 t31 t32) (by decide)) ?_
                        exact AO.nilE (ρ' := [(80, (eBool (decide (t31 = t32))))]) (H' := [(n4, .mem (.ar 1 (p0.toList.map eU64))), (n5, .mem (.ar 1 (p1.toList.map eU64)))]) ⟨⟨_, rfl, rfl⟩, Sub.refl _⟩ ⟨rfl, trivial⟩ (Sub.refl _)
                      · refine AO.weak (ρ' := [(73, (eBool (decide (t28 = t29)))), (80, (eBool (decide (t31 = t32))))]) (H' := [(n4, .mem (.ar 1 (p0.toList.map eU64))), (n5, .mem (.ar 1 (p1.toList.map eU64)))]) ⟨rfl, rfl, trivial⟩ (Sub.refl _) ?_
                        refine AO.calm rfl 81 rfl (by decide) (eBool (decide (t31 = t32))) (Calm.pickT rfl (congrArg (fun b => some (AV.fl (Value.bool b))) (decide_eq_true hc30)) rfl) ?_
                        exact AO.nilE (ρ' := [(81, (eBool (decide (t31 = t32))))]) (H' := [(n4, .mem (.ar 1 (p0.toList.map eU64))), (n5, .mem (.ar 1 (p1.toList.map eU64)))]) ⟨⟨_, rfl, rfl⟩, Sub.refl _⟩ ⟨rfl, trivial⟩ (Sub.refl _)
                      · refine AO.weak (ρ' := [(81, (eBool (decide (t31 = t32))))]) (H' := [(n4, .mem (.ar 1 (p0.toList.map eU64))), (n5, .mem (.ar 1 (p1.toList.map eU64)))]) ⟨rfl, trivial⟩ (Sub.refl _) ?_
                        refine AO.calm rfl 82 rfl (by decide) (eBool (decide (t31 = t32))) (Calm.move rfl rfl) ?_
                        exact AO.nilE (ρ' := [(82, (eBool (decide (t31 = t32))))]) (H' := [(n4, .mem (.ar 1 (p0.toList.map eU64))), (n5, .mem (.ar 1 (p1.toList.map eU64)))]) ⟨⟨_, rfl, rfl⟩, Sub.refl _⟩ ⟨rfl, trivial⟩ (Sub.refl _)
                      · refine AO.weak (ρ' := [(3, (.ptr n4 0)), (82, (eBool (decide (t31 = t32))))]) (H' := [(n4, .mem (.ar 1 (p0.toList.map eU64))), (n5, .mem (.ar 1 (p1.toList.map eU64)))]) ⟨rfl, rfl, trivial⟩ (Sub.refl _) ?_
                        refine AO.calmG 25 true 82 rfl rfl (congrArg (fun b => some (AV.fl (Value.bool b))) (decide_eq_true hc33)) 83 rfl (by decide) (.ar 1 (p0.toList.map eU64)) (Calm.load 0 rfl rfl rfl (At.cast At.here rfl) ag27 (by rw [sz27]; simp [AV.size])) ?_
                        exact AO.nilE (ρ' := [(83, (.ar 1 (p0.toList.map eU64)))]) (H' := [(n4, .mem (.ar 1 (p0.toList.map eU64))), (n5, .mem (.ar 1 (p1.toList.map eU64)))]) ⟨⟨_, rfl, rfl⟩, Sub.refl _⟩ ⟨rfl, trivial⟩ (Sub.refl _)
                      · refine AO.weak (ρ' := [(82, (eBool (decide (t31 = t32)))), (83, (.ar 1 (p0.toList.map eU64)))]) (H' := [(n4, .mem (.ar 1 (p0.toList.map eU64))), (n5, .mem (.ar 1 (p1.toList.map eU64)))]) ⟨rfl, rfl, trivial⟩ (Sub.refl _) ?_
                        refine AO.callG 25 true 82 [(.ar 1 (p0.toList.map eU64))] (.ar 1 (t34.toList.map eU64)) 84 rfl (by decide) ok26 rfl rfl (congrArg (fun b => some (AV.fl (Value.bool b))) (decide_eq_true hc33)) rfl rfl ⟨rfl, rfl, trivial⟩ (byteset_Not_spec et34) ?_
                        exact AO.nilE (ρ' := [(84, (.ar 1 (t34.toList.map eU64)))]) (H' := [(n4, .mem (.ar 1 (p0.toList.map eU64))), (n5, .mem (.ar 1 (p1.toList.map eU64)))]) ⟨⟨_, rfl, rfl⟩, Sub.refl _⟩ ⟨rfl, trivial⟩ (Sub.refl _)
                      · refine AO.weak (ρ' := [(3, (.ptr n4 0)), (82, (eBool (decide (t31 = t32))))]) (H' := [(n4, .mem (.ar 1 (p0.toList.map eU64))), (n5, .mem (.ar 1 (p1.toList.map eU64)))]) ⟨rfl, rfl, trivial⟩ (Sub.refl _) ?_
                        refine AO.calmG 25 true 82 rfl rfl (congrArg (fun b => some (AV.fl (Value.bool b))) (decide_eq_true hc33)) 85 rfl (by decide) (.ar 1 (p0.toList.map eU64)) (Calm.load 0 rfl rfl rfl (At.cast At.here rfl) ag27 (by rw [sz27]; simp [AV.size])) ?_
                        exact AO.nilE (ρ' := [(85, (.ar 1 (p0.toList.map eU64)))]) (H' := [(n4, .mem (.ar 1 (p0.toList.map eU64))), (n5, .mem (.ar 1 (p1.toList.map eU64)))]) ⟨⟨_, rfl, rfl⟩, Sub.refl _⟩ ⟨rfl, trivial⟩ (Sub.refl _)
                      · refine AO.weak (ρ' := [(4, (.ptr n5 0)), (82, (eBool (decide (t31 = t32))))]) (H' := [(n4, .mem (.ar 1 (p0.toList.map eU64))), (n5, .mem (.ar 1 (p1.toList.map eU64)))]) ⟨rfl, rfl, trivial⟩ (Sub.refl _) ?_
                        refine AO.calmG 25 true 82 rfl rfl (congrArg (fun b => some (AV.fl (Value.bool b))) (decide_eq_true hc33)) 86 rfl (by decide) (.ar 1 (p1.toList.map eU64)) (Calm.load 1 rfl rfl rfl (At.cast At.here rfl) ag27 (by rw [sz27]; simp [AV.size])) ?_
                        exact AO.nilE (ρ' := [(86, (.ar 1 (p1.toList.map eU64)))]) (H' := [(n4, .mem (.ar 1 (p0.toList.map eU64))), (n5, .mem (.ar 1 (p1.toList.map eU64)))]) ⟨⟨_, rfl, rfl⟩, Sub.refl _⟩ ⟨rfl, trivial⟩ (Sub.refl _)
                      · refine AO.weak (ρ' := [(82, (eBool (decide (t31 = t32)))), (85, (.ar 1 (p0.toList.map eU64))), (86, (.ar 1 (p1.toList.map eU64)))]) (H' := [(n4, .mem (.ar 1 (p0.toList.map eU64))), (n5, .mem (.ar 1 (p1.toList.map eU64)))]) ⟨rfl, rfl, rfl, trivial⟩ (Sub.refl _) ?_
                        refine AO.callG 25 true 82 [(eI64 (3 : Int)), (.ar 1 (p0.toList.map eU64)), (.ar 1 (p1.toList.map eU64))] (.ar 1 (t35.toList.map eU64)) 87 rfl (by decide) ok23 rfl rfl (congrArg (fun b => some (AV.fl (Value.bool b))) (decide_eq_true hc33)) rfl rfl ⟨rfl, rfl, rfl, rfl, rfl, rfl, trivial⟩ (bosketref02_Put_spec et35) ?_
                        exact AO.nilE (ρ' := [(87, (.ar 1 (t35.toList.map eU64)))]) (H' := [(n4, .mem (.ar 1 (p0.toList.map eU64))), (n5, .mem (.ar 1 (p1.toList.map eU64)))]) ⟨⟨_, rfl, rfl⟩, Sub.refl _⟩ ⟨rfl, trivial⟩ (Sub.refl _)
                      · refine AO.weak (ρ' := [(82, (eBool (decide (t31 = t32)))), (84, (.ar 1 (t34.toList.map eU64))), (87, (.ar 1 (t35.toList.map eU64)))]) (H' := [(n4, .mem (.ar 1 (p0.toList.map eU64))), (n5, .mem (.ar 1 (p1.toList.map eU64)))]) ⟨rfl, rfl, rfl, trivial⟩ (Sub.refl _) ?_
                        refine AO.calmG 25 true 82 rfl rfl (congrArg (fun b => some (AV.fl (Value.bool b))) (decide_eq_true hc33)) 88 rfl (by decide) (eBool (decide (t34 = t35))) (Calm.eqA rfl rfl rfl eg27 (eqa27 t34 t35) (by decide)) ?_
                        exact AO.nilE (ρ' := [(88, (eBool (decide (t34 = t35))))]) (H' := [(n4, .mem (.ar 1 (p0.toList.map eU64))), (n5, .mem (.ar 1 (p1.toList.map eU64)))]) ⟨⟨_, rfl, rfl⟩, Sub.refl _⟩ ⟨rfl, trivial⟩ (Sub.refl _)
                      · refine AO.weak (ρ' := [(82, (eBool (decide (t31 = t32)))), (88, (eBool (decide (t34 = t35))))]) (H' := [(n4, .mem (.ar 1 (p0.toList.map eU64))), (n5, .mem (.ar 1 (p1.toList.map eU64)))]) ⟨rfl, rfl, trivial⟩ (Sub.refl _) ?_
                        refine AO.calm rfl 89 rfl (by decide) (eBool (decide (t34 = t35))) (Calm.pickT rfl (congrArg (fun b => some (AV.fl (Value.bool b))) (decide_eq_true hc33)) rfl) ?_
                        exact AO.nilE (ρ' := [(89, (eBool (decide (t34 = t35))))]) (H' := [(n4, .mem (.ar 1 (p0.toList.map eU64))), (n5, .mem (.ar 1 (p1.toList.map eU64)))]) ⟨⟨_, rfl, rfl⟩, Sub.refl _⟩ ⟨rfl, trivial⟩ (Sub.refl _)
                      · refine AO.weak (ρ' := [(89, (eBool (decide (t34 = t35))))]) (H' := [(n4, .mem (.ar 1 (p0.toList.map eU64))), (n5, .mem (.ar 1 (p1.toList.map eU64)))]) ⟨rfl, trivial⟩ (Sub.refl _) ?_
                        refine AO.calm rfl 90 rfl (by decide) (eBool (decide (t34 = t35))) (Calm.move rfl rfl) ?_
                        exact AO.nilE (ρ' := [(90, (eBool (decide (t34 = t35))))]) (H' := [(n4, .mem (.ar 1 (p0.toList.map eU64))), (n5, .mem (.ar 1 (p1.toList.map eU64)))]) ⟨⟨_, rfl, rfl⟩, Sub.refl _⟩ ⟨rfl, trivial⟩ (Sub.refl _)
                      · refine AO.weak (ρ' := [(90, (eBool (decide (t34 = t35))))]) (H' := [(n4, .mem (.ar 1 (p0.toList.map eU64))), (n5, .mem (.ar 1 (p1.toList.map eU64)))]) ⟨rfl, trivial⟩ (Sub.refl _) ?_
                        refine AO.callG 33 true 90 [] (.ar 1 (t37.toList.map eU64)) 91 rfl (by decide) ok27 rfl rfl (congrArg (fun b => some (AV.fl (Value.bool b))) (decide_eq_true hc36)) rfl rfl trivial (byteset_Full_spec et37) ?_
                        exact AO.nilE (ρ' := [(91, (.ar 1 (t37.toList.map eU64)))]) (H' := [(n4, .mem (.ar 1 (p0.toList.map eU64))), (n5, .mem (.ar 1 (p1.toList.map eU64)))]) ⟨⟨_, rfl, rfl⟩, Sub.refl _⟩ ⟨rfl, trivial⟩ (Sub.refl _)
                      · refine AO.weak (ρ' := [(90, (eBool (decide (t34 = t35))))]) (H' := [(n4, .mem (.ar 1 (p0.toList.map eU64))), (n5, .mem (.ar 1 (p1.toList.map eU64)))]) ⟨rfl, trivial⟩ (Sub.refl _) ?_
                        refine AO.calmG 33 true 90 rfl rfl (congrArg (fun b => some (AV.fl (Value.bool b))) (decide_eq_true hc36)) 92 rfl (by decide) (.ar 1 ((Vector.replicate 4 (0 : Int)).toList.map eU64)) (Calm.buildAr (qs := []) rfl trivial Tryd.underlying27 sz25 zr27 lay27 .nil rfl) ?_
                        exact AO.nilE (ρ' := [(92, (.ar 1 ((Vector.replicate 4 (0 : Int)).toList.map eU64)))]) (H' := [(n4, .mem (.ar 1 (p0.toList.map eU64))), (n5, .mem (.ar 1 (p1.toList.map eU64)))]) ⟨⟨_, rfl, rfl⟩, Sub.refl _⟩ ⟨rfl, trivial⟩ (Sub.refl _)
                      · refine AO.weak (ρ' := [(4, (.ptr n5 0)), (90, (eBool (decide (t34 = t35))))]) (H' := [(n4, .mem (.ar 1 (p0.toList.map eU64))), (n5, .mem (.ar 1 (p1.toList.map eU64)))]) ⟨rfl, rfl, trivial⟩ (Sub.refl _) ?_
                        refine AO.calmG 33 true 90 rfl rfl (congrArg (fun b => some (AV.fl (Value.bool b))) (decide_eq_true hc36)) 93 rfl (by decide) (.ar 1 (p1.toList.map eU64)) (Calm.load 1 rfl rfl rfl (At.cast At.here rfl) ag27 (by rw [sz27]; simp [AV.size])) ?_
                        exact AO.nilE (ρ' := [(93, (.ar 1 (p1.toList.map eU64)))]) (H' := [(n4, .mem (.ar 1 (p0.toList.map eU64))), (n5, .mem (.ar 1 (p1.toList.map eU64)))]) ⟨⟨_, rfl, rfl⟩, Sub.refl _⟩ ⟨rfl, trivial⟩ (Sub.refl _)
                      · refine AO.weak (ρ' := [(90, (eBool (decide (t34 = t35)))), (92, (.ar 1 ((Vector.replicate 4 (0 : Int)).toList.map eU64))), (93, (.ar 1 (p1.toList.map eU64)))]) (H' := [(n4, .mem (.ar 1 (p0.toList.map eU64))), (n5, .mem (.ar 1 (p1.toList.map eU64)))]) ⟨rfl, rfl, rfl, trivial⟩ (Sub.refl _) ?_
                        refine AO.callG 33 true 90 [(eI64 (3 : Int)), (.ar 1 ((Vector.replicate 4 (0 : Int)).toList.map eU64)), (.ar 1 (p1.toList.map eU64))] (.ar 1 (t38.toList.map eU64)) 94 rfl (by decide) ok23 rfl rfl (congrArg (fun b => some (AV.fl (Value.bool b))) (decide_eq_true hc36)) rfl rfl ⟨rfl, rfl, rfl, rfl, rfl, rfl, trivial⟩ (bosketref02_Put_spec et38) ?_
                        exact AO.nilE (ρ' := [(94, (.ar 1 (t38.toList.map eU64)))]) (H' := [(n4, .mem (.ar 1 (p0.toList.map eU64))), (n5, .mem (.ar 1 (p1.toList.map eU64)))]) ⟨⟨_, rfl, rfl⟩, Sub.refl _⟩ ⟨rfl, trivial⟩ (Sub.refl _)
                      · refine AO.weak (ρ' := [(90, (eBool (decide (t34 = t35)))), (91, (.ar 1 (t37.toList.map eU64))), (94, (.ar 1 (t38.toList.map eU64)))]) (H' := [(n4, .mem (.ar 1 (p0.toList.map eU64))), (n5, .mem (.ar 1 (p1.toList.map eU64)))]) ⟨rfl, rfl, rfl, trivial⟩ (Sub.refl _) ?_
                        refine AO.calmG 33 true 90 rfl rfl (congrArg (fun b => some (AV.fl (Value.bool b))) (decide_eq_true hc36)) 95 rfl (by decide) (eBool (decide (t37 = t38))) (Calm.eqA rfl rfl rfl eg27 (eqa27 t37 t38) (by decide)) ?_
                        exact AO.nilE (ρ' := [(95, (eBool (decide (t37 = t38))))]) (H' := [(n4, .mem (.ar 1 (p0.toList.map eU64))), (n5, .mem (.ar 1 (p1.toList.map eU64)))]) ⟨⟨_, rfl, rfl⟩, Sub.refl _⟩ ⟨rfl, trivial⟩ (Sub.refl _)
                      · refine AO.weak (ρ' := [(90, (eBool (decide (t34 = t35)))), (95, (eBool (decide (t37 = t38))))]) (H' := [(n4, .mem (.ar 1 (p0.toList.map eU64))), (n5, .mem (.ar 1 (p1.toList.map eU64)))]) ⟨rfl, rfl, trivial⟩ (Sub.refl _) ?_
                        refine AO.calm rfl 96 rfl (by decide) (eBool (decide (t37 = t38))) (Calm.pickT rfl (congrArg (fun b => some (AV.fl (Value.bool b))) (decide_eq_true hc36)) rfl) ?_
                        exact AO.nilE (ρ' := [(96, (eBool (decide (t37 = t38))))]) (H' := [(n4, .mem (.ar 1 (p0.toList.map eU64))), (n5, .mem (.ar 1 (p1.toList.map eU64)))]) ⟨⟨_, rfl, rfl⟩, Sub.refl _⟩ ⟨rfl, trivial⟩ (Sub.refl _)
                      · refine AO.weak (ρ' := [(96, (eBool (decide (t37 = t38))))]) (H' := [(n4, .mem (.ar 1 (p0.toList.map eU64))), (n5, .mem (.ar 1 (p1.toList.map eU64)))]) ⟨rfl, trivial⟩ (Sub.refl _) ?_
                        refine AO.calm rfl 6 rfl (by decide) (eBool (decide (t37 = t38))) (Calm.assign rfl rfl) ?_
                        exact AO.nilE (ρ' := [(6, (eBool (decide (t37 = t38))))]) (H' := [(n4, .mem (.ar 1 (p0.toList.map eU64))), (n5, .mem (.ar 1 (p1.toList.map eU64)))]) ⟨⟨_, rfl, rfl⟩, Sub.refl _⟩ ⟨rfl, trivial⟩ (Sub.refl _)
                    · cases hq24
                      exact ⟨rfl, rfl, rfl⟩
                  · have hq24 := (if_neg hc36).symm.trans hq24
                    refine AW.regAny (by rfl) (by decide +kernel) [(.ar 1 (p0.toList.map eU64)), (.ar 1 (p1.toList.map eU64)), (.ar 1 (t25.toList.map eU64)), (.ar 1 (p0.toList.map eU64)), (.ar 1 (p1.toList.map eU64)), (.ar 1 (t26.toList.map eU64)), (eBool (decide (t25 = t26))), (eBool (decide (t25 = t26))), (.ar 1 (p0.toList.map eU64)), (.ar 1 (p1.toList.map eU64)), (.ar 1 (t28.toList.map eU64)), (.ar 1 (p0.toList.map eU64)), (.ar 1 (p1.toList.map eU64)), (.ar 1 (t29.toList.map eU64)), (eBool (decide (t28 = t29))), (eBool (decide (t28 = t29))), (eBool (decide (t28 = t29))), (.ar 1 (p0.toList.map eU64)), (.ar 1 (p1.toList.map eU64)), (.ar 1 (t31.toList.map eU64)), (.ar 1 (p0.toList.map eU64)), (.ar 1 (p1.toList.map eU64)), (.ar 1 (t32.toList.map eU64)), (eBool (decide (t31 = t32))), (eBool (decide (t31 = t32))), (eBool (decide (t31 = t32))), (.ar 1 (p0.toList.map eU64)), (.ar 1 (t34.toList.map eU64)), (.ar 1 (p0.toList.map eU64)), (.ar 1 (p1.toList.map eU64)), (.ar 1 (t35.toList.map eU64)), (eBool (decide (t34 = t35))), (eBool (decide (t34 = t35))), (eBool (decide (t34 = t35))), (.fl undef), (.fl undef), (.fl undef), (.fl undef), (.fl undef), (eBool false), (eBool false)] [(3, (.ptr n4 0)), (4, (.ptr n5 0))] ⟨rfl, rfl, trivial⟩ rfl ?_ [(6, (eBool false))] [] ⟨rfl, trivial⟩ (Sub.nil _) ?_
                    · refine ⟨?_, ?_, ?_, ?_, ?_, ?_, ?_, ?_, ?_, ?_, ?_, ?_, ?_, ?_, ?_, ?_, ?_, ?_, ?_, ?_, ?_, ?_, ?_, ?_, ?_, ?_, ?_, ?_, ?_, ?_, ?_, ?_, ?_, ?_, ?_, ?_, ?_, ?_, ?_, ?_, ?_, trivial⟩
                      · refine AO.weak (ρ' := [(3, (.ptr n4 0))]) (H' := [(n4, .mem (.ar 1 (p0.toList.map eU64))), (n5, .mem (.ar 1 (p1.toList.map eU64)))]) ⟨rfl, trivial⟩ (Sub.refl _) ?_
                        refine AO.calm rfl 57 rfl (by decide) (.ar 1 (p0.toList.map eU64)) (Calm.load 0 rfl rfl rfl (At.cast At.here rfl) ag27 (by rw [sz27]; simp [AV.size])) ?_
                        exact AO.nilE (ρ' := [(57, (.ar 1 (p0.toList.map eU64)))]) (H' := [(n4, .mem (.ar 1 (p0.toList.map eU64))), (n5, .mem (.ar 1 (p1.toList.map eU64)))]) ⟨⟨_, rfl, rfl⟩, Sub.refl _⟩ ⟨rfl, trivial⟩ (Sub.refl _)
                      · refine AO.weak (ρ' := [(4, (.ptr n5 0))]) (H' := [(n4, .mem (.ar 1 (p0.toList.map eU64))), (n5, .mem (.ar 1 (p1.toList.map eU64)))]) ⟨rfl, trivial⟩ (Sub.refl _) ?_
                        refine AO.calm rfl 58 rfl (by decide) (.ar 1 (p1.toList.map eU64)) (Calm.load 1 rfl rfl rfl (At.cast At.here rfl) ag27 (by rw [sz27]; simp [AV.size])) ?_
                        exact AO.nilE (ρ' := [(58, (.ar 1 (p1.toList.map eU64)))]) (H' := [(n4, .mem (.ar 1 (p0.toList.map eU64))), (n5, .mem (.ar 1 (p1.toList.map eU64)))]) ⟨⟨_, rfl, rfl⟩, Sub.refl _⟩ ⟨rfl, trivial⟩ (Sub.refl _)
                      · refine AO.weak (ρ' := [(57, (.ar 1 (p0.toList.map eU64))), (58, (.ar 1 (p1.toList.map eU64)))]) (H' := [(n4, .mem (.ar 1 (p0.toList.map eU64))), (n5, .mem (.ar 1 (p1.toList.map eU64)))]) ⟨rfl, rfl, trivial⟩ (Sub.refl _) ?_
                        refine AO.callS [(.ar 1 (p0.toList.map eU64)), (.ar 1 (p1.toList.map eU64))] (.ar 1 (t25.toList.map eU64)) 59 rfl (by decide) ok12 rfl rfl rfl ⟨rfl, rfl, rfl, rfl, trivial⟩ (byteset_Or_spec et25) ?_
                        exact AO.nilE (ρ' := [(59, (.ar 1 (t25.toList.map eU64)))]) (H' := [(n4, .mem (.ar 1 (p0.toList.map eU64))), (n5, .mem (.ar 1 (p1.toList.map eU64)))]) ⟨⟨_, rfl, rfl⟩, Sub.refl _⟩ ⟨rfl, trivial⟩ (Sub.refl _)
                      · refine AO.weak (ρ' := [(3, (.ptr n4 0))]) (H' := [(n4, .mem (.ar 1 (p0.toList.map eU64))), (n5, .mem (.ar 1 (p1.toList.map eU64)))]) ⟨rfl, trivial⟩ (Sub.refl _) ?_
                        refine AO.calm rfl 60 rfl (by decide) (.ar 1 (p0.toList.map eU64)) (Calm.load 0 rfl rfl rfl (At.cast At.here rfl) ag27 (by rw [sz27]; simp [AV.size])) ?_
                        exact AO.nilE (ρ' := [(60, (.ar 1 (p0.toList.map eU64)))]) (H' := [(n4, .mem (.ar 1 (p0.toList.map eU64))), (n5, .mem (.ar 1 (p1.toList.map eU64)))]) ⟨⟨_, rfl, rfl⟩, Sub.refl _⟩ ⟨rfl, trivial⟩ (Sub.refl _)
                      · refine AO.weak (ρ' := [(4, (.ptr n5 0))]) (H' := [(n4, .mem (.ar 1 (p0.toList.map eU64))), (n5, .mem (.ar 1 (p1.toList.map eU64)))]) ⟨rfl, trivial⟩ (Sub.refl _) ?_
                        refine AO.calm rfl 61 rfl (by decide) (.ar 1 (p1.toList.map eU64)) (Calm.load 1 rfl rfl rfl (At.cast At.here rfl) ag27 (by rw [sz27]; simp [AV.size])) ?_
                        exact AO.nilE (ρ' := [(61, (.ar 1 (p1.toList.map eU64)))]) (H' := [(n4, .mem (.ar 1 (p0.toList.map eU64))), (n5, .mem (.ar 1 (p1.toList.map eU64)))]) ⟨⟨_, rfl, rfl⟩, Sub.refl _⟩ ⟨rfl, trivial⟩ (Sub.refl _)
                      · refine AO.weak (ρ' := [(60, (.ar 1 (p0.toList.map eU64))), (61, (.ar 1 (p1.toList.map eU64)))]) (H' := [(n4, .mem (.ar 1 (p0.toList.map eU64))), (n5, .mem (.ar 1 (p1.toList.map eU64)))]) ⟨rfl, rfl, trivial⟩ (Sub.refl _) ?_
                        refine AO.callS [(eI64 (0 : Int)), (.ar 1 (p0.toList.map eU64)), (.ar 1 (p1.toList.map eU64))] (.ar 1 (t26.toList.map eU64)) 62 rfl (by decide) ok23 rfl rfl rfl ⟨rfl, rfl, rfl, rfl, rfl, rfl, trivial⟩ (bosketref02_Put_spec et26) ?_
                        exact AO.nilE (ρ' := [(62, (.ar 1 (t26.toList.map eU64)))]) (H' := [(n4, .mem (.ar 1 (p0.toList.map eU64))), (n5, .mem (.ar 1 (p1.toList.map eU64)))]) ⟨⟨_, rfl, rfl⟩, Sub.refl _⟩ ⟨rfl, trivial⟩ (Sub.refl _)
                      · refine AO.weak (ρ' := [(59, (.ar 1 (t25.toList.map eU64))), (62, (.ar 1 (t26.toList.map eU64)))]) (H' := [(n4, .mem (.ar 1 (p0.toList.map eU64))), (n5, .mem (.ar 1 (p1.toList.map eU64)))]) ⟨rfl, rfl, trivial⟩ (Sub.refl _) ?_
                        refine AO.calm rfl 63 rfl (by decide) (eBool (decide (t25 = t26))) (Calm.eqA rfl rfl rfl eg27 (eqa27 t25 t26) (by decide)) ?_
                        exact AO.nilE (ρ' := [(63, (eBool (decide (t25 = t26))))]) (H' := [(n4, .mem (.ar 1 (p0.toList.map eU64))), (n5, .mem (.ar 1 (p1.toList.map eU64)))]) ⟨⟨_, rfl, rfl⟩, Sub.refl _⟩ ⟨rfl, trivial⟩ (Sub.refl _)
                      · refine AO.weak (ρ' := [(63, (eBool (decide (t25 = t26))))]) (H' := [(n4, .mem (.ar 1 (p0.toList.map eU64))), (n5, .mem (.ar 1 (p1.toList.map eU64)))]) ⟨rfl, trivial⟩ (Sub.refl _) ?_
                        refine AO.calm rfl 64 rfl (by decide) (eBool (decide (t25 = t26))) (Calm.move rfl rfl) ?_
                        exact AO.nilE (ρ' := [(64, (eBool (decide (t25 = t26))))]) (H' := [(n4, .mem (.ar 1 (p0.toList.map eU64))), (n5, .mem (.ar 1 (p1.toList.map eU64)))]) ⟨⟨_, rfl, rfl⟩, Sub.refl _⟩ ⟨rfl, trivial⟩ (Sub.refl _)
                      · refine AO.weak (ρ' := [(3, (.ptr n4 0)), (64, (eBool (decide (t25 = t26))))]) (H' := [(n4, .mem (.ar 1 (p0.toList.map eU64))), (n5, .mem (.ar 1 (p1.toList.map eU64)))]) ⟨rfl, rfl, trivial⟩ (Sub.refl _) ?_
                        refine AO.calmG 7 true 64 rfl rfl (congrArg (fun b => some (AV.fl (Value.bool b))) (decide_eq_true hc27)) 65 rfl (by decide) (.ar 1 (p0.toList.map eU64)) (Calm.load 0 rfl rfl rfl (At.cast At.here rfl) ag27 (by rw [sz27]; simp [AV.size])) ?_
                        exact AO.nilE (ρ' := [(65, (.ar 1 (p0.toList.map eU64)))]) (H' := [(n4, .mem (.ar 1 (p0.toList.map eU64))), (n5, .mem (.ar 1 (p1.toList.map eU64)))]) ⟨⟨_, rfl, rfl⟩, Sub.refl _⟩ ⟨rfl, trivial⟩ (Sub.refl _)
                      · refine AO.weak (ρ' := [(4, (.ptr n5 0)), (64, (eBool (decide (t25 = t26))))]) (H' := [(n4, .mem (.ar 1 (p0.toList.map eU64))), (n5, .mem (.ar 1 (p1.toList.map eU64)))]) ⟨rfl, rfl, trivial⟩ (Sub.refl _) ?_
                        refine AO.calmG 7 true 64 rfl rfl (congrArg (fun b => some (AV.fl (Value.bool b))) (decide_eq_true hc27)) 66 rfl (by decide) (.ar 1 (p1.toList.map eU64)) (Calm.load 1 rfl rfl rfl (At.cast At.here rfl) ag27 (by rw [sz27]; simp [AV.size])) ?_
                        exact AO.nilE (ρ' := [(66, (.ar 1 (p1.toList.map eU64)))]) (H' := [(n4, .mem (.ar 1 (p0.toList.map eU64))), (n5, .mem (.ar 1 (p1.toList.map eU64)))]) ⟨⟨_, rfl, rfl⟩, Sub.refl _⟩ ⟨rfl, trivial⟩ (Sub.refl _)
                      · refine AO.weak (ρ' := [(64, (eBool (decide (t25 = t26)))), (65, (.ar 1 (p0.toList.map eU64))), (66, (.ar 1 (p1.toList.map eU64)))]) (H' := [(n4, .mem (.ar 1 (p0.toList.map eU64))), (n5, .mem (.ar 1 (p1.toList.map eU64)))]) ⟨rfl, rfl, rfl, trivial⟩ (Sub.refl _) ?_
                        refine AO.callG 7 true 64 [(.ar 1 (p0.toList.map eU64)), (.ar 1 (p1.toList.map eU64))] (.ar 1 (t28.toList.map eU64)) 67 rfl (by decide) ok24 rfl rfl (congrArg (fun b => some (AV.fl (Value.bool b))) (decide_eq_true hc27)) rfl rfl ⟨rfl, rfl, rfl, rfl, trivial⟩ (byteset_And_spec et28) ?_
                        exact AO.nilE (ρ' := [(67, (.ar 1 (t28.toList.map eU64)))]) (H' := [(n4, .mem (.ar 1 (p0.toList.map eU64))), (n5, .mem (.ar 1 (p1.toList.map eU64)))]) ⟨⟨_, rfl, rfl⟩, Sub.refl _⟩ ⟨rfl, trivial⟩ (Sub.refl _)
                      · refine AO.weak (ρ' := [(3, (.ptr n4 0)), (64, (eBool (decide (t25 = t26))))]) (H' := [(n4, .mem (.ar 1 (p0.toList.map eU64))), (n5, .mem (.ar 1 (p1.toList.map eU64)))]) ⟨rfl, rfl, trivial⟩ (Sub.refl _) ?_
                        refine AO.calmG 7 true 64 rfl rfl (congrArg (fun b => some (AV.fl (Value.bool b))) (decide_eq_true hc27)) 68 rfl (by decide) (.ar 1 (p0.toList.map eU64)) (Calm.load 0 rfl rfl rfl (At.cast At.here rfl) ag27 (by rw [sz27]; simp [AV.size])) ?_
                        exact AO.nilE (ρ' := [(68, (.ar 1 (p0.toList.map eU64)))]) (H' := [(n4, .mem (.ar 1 (p0.toList.map eU64))), (n5, .mem (.ar 1 (p1.toList.map eU64)))]) ⟨⟨_, rfl, rfl⟩, Sub.refl _⟩ ⟨rfl, trivial⟩ (Sub.refl _)
                      · refine AO.weak (ρ' := [(4, (.ptr n5 0)), (64, (eBool (decide (t25 = t26))))]) (H' := [(n4, .mem (.ar 1 (p0.toList.map eU64))), (n5, .mem (.ar 1 (p1.toList.map eU64)))]) ⟨rfl, rfl, trivial⟩ (Sub.refl _) ?_
                        refine AO.calmG 7 true 64 rfl rfl (congrArg (fun b => some (AV.fl (Value.bool b))) (decide_eq_true hc27)) 69 rfl (by decide) (.ar 1 (p1.toList.map eU64)) (Calm.load 1 rfl rfl rfl (At.cast At.here rfl) ag27 (by rw [sz27]; simp [AV.size])) ?_
                        exact AO.nilE (ρ' := [(69, (.ar 1 (p1.toList.map eU64)))]) (H' := [(n4, .mem (.ar 1 (p0.toList.map eU64))), (n5, .mem (.ar 1 (p1.toList.map eU64)))]) ⟨⟨_, rfl, rfl⟩, Sub.refl _⟩ ⟨rfl, trivial⟩ (Sub.refl _)
                      · refine AO.weak (ρ' := [(64, (eBool (decide (t25 = t26)))), (68, (.ar 1 (p0.toList.map eU64))), (69, (.ar 1 (p1.toList.map eU64)))]) (H' := [(n4, .mem (.ar 1 (p0.toList.map eU64))), (n5, .mem (.ar 1 (p1.toList.map eU64)))]) ⟨rfl, rfl, rfl, trivial⟩ (Sub.refl _) ?_
                        refine AO.callG 7 true 64 [(eI64 (1 : Int)), (.ar 1 (p0.toList.map eU64)), (.ar 1 (p1.toList.map eU64))] (.ar 1 (t29.toList.map eU64)) 70 rfl (by decide) ok23 rfl rfl (congrArg (fun b => some (AV.fl (Value.bool b))) (decide_eq_true hc27)) rfl rfl ⟨rfl, rfl, rfl, rfl, rfl, rfl, trivial⟩ (bosketref02_Put_spec et29) ?_
                        exact AO.nilE (ρ' := [(70, (.ar 1 (t29.toList.map eU64)))]) (H' := [(n4, .mem (.ar 1 (p0.toList.map eU64))), (n5, .mem (.ar 1 (p1.toList.map eU64)))]) ⟨⟨_, rfl, rfl⟩, Sub.refl _⟩ ⟨rfl, trivial⟩ (Sub.refl _)
                      · refine AO.weak (ρ' := [(64, (eBool (decide (t25 = t26)))), (67, (.ar 1 (t28.toList.map eU64))), (70, (.ar 1 (t29.toList.map eU64)))]) (H' := [(n4, .mem (.ar 1 (p0.toList.map eU64))), (n5, .mem (.ar 1 (p1.toList.map eU64)))]) ⟨rfl, rfl, rfl, trivial⟩ (Sub.refl _) ?_
                        refine AO.calmG 7 true 64 rfl rfl (congrArg (fun b => some (AV.fl (Value.bool b))) (decide_eq_true hc27)) 71 rfl (by decide) (eBool (decide (t28 = t29))) (Calm.eqA rfl rfl rfl eg27 (eqa27 t28 t29) (by decide)) ?_
                        exact AO.nilE (ρ' := [(71, (eBool (decide (t28 = t29))))]) (H' := [(n4, .mem (.ar 1 (p0.toList.map eU64))), (n5, .mem (.ar 1 (p1.toList.map eU64)))]) ⟨⟨_, rfl, rfl⟩, Sub.refl _⟩ ⟨rfl, trivial⟩ (Sub.refl _)
                      · refine AO.weak (ρ' := [(64, (eBool (decide (t25 = t26)))), (71, (eBool (decide (t28 = t29))))]) (H' := [(n4, .mem (.ar 1 (p0.toList.map eU64))), (n5, .mem (.ar 1 (p1.toList.map eU64)))]) ⟨rfl, rfl, trivial⟩ (Sub.refl _) ?_
                        refine AO.calm rfl 72 rfl (by decide) (eBool (decide (t28 = t29))) (Calm.pickT rfl (congrArg (fun b => some (AV.fl (Value.bool b))) (decide_eq_true hc27)) rfl) ?_
                        exact AO.nilE (ρ' := [(72, (eBool (decide (t28 = t29))))]) (H' := [(n4, .mem (.ar 1 (p0.toList.map eU64))), (n5, .mem (.ar 1 (p1.toList.map eU64)))]) ⟨⟨_, rfl, rfl⟩, Sub.refl _⟩ ⟨rfl, trivial⟩ (Sub.refl _)
                      · refine AO.weak (ρ' := [(72, (eBool (decide (t28 = t29))))]) (H' := [(n4, .mem (.ar 1 (p0.toList.map eU64))), (n5, .mem (.ar 1 (p1.toList.map eU64)))]) ⟨rfl, trivial⟩ (Sub.refl _) ?_
                        refine AO.calm rfl 73 rfl (by decide) (eBool (decide (t28 = t29))) (Calm.move rfl rfl) ?_
                        exact AO.nilE (ρ' := [(73, (eBool (decide (t28 = t29))))]) (H' := [(n4, .mem (.ar 1 (p0.toList.map eU64))), (n5, .mem (.ar 1 (p1.toList.map eU64)))]) ⟨⟨_, rfl, rfl⟩, Sub.refl _⟩ ⟨rfl, trivial⟩ (Sub.refl _)
                      · refine AO.weak (ρ' := [(3, (.ptr n4 0)), (73, (eBool (decide (t28 = t29))))]) (H' := [(n4, .mem (.ar 1 (p0.toList.map eU64))), (n5, .mem (.ar 1 (p1.toList.map eU64)))]) ⟨rfl, rfl, trivial⟩ (Sub.refl _) ?_
                        refine AO.calmG 16 true 73 rfl rfl (congrArg (fun b => some (AV.fl (Value.bool b))) (decide_eq_true hc30)) 74 rfl (by decide) (.ar 1 (p0.toList.map eU64)) (Calm.load 0 rfl rfl rfl (At.cast At.here rfl) ag27 (by rw [sz27]; simp [AV.size])) ?_
                        exact AO.nilE (ρ' := [(74, (.ar 1 (p0.toList.map eU64)))]) (H' := [(n4, .mem (.ar 1 (p0.toList.map eU64))), (n5, .mem (.ar 1 (p1.toList.map eU64)))]) ⟨⟨_, rfl, rfl⟩, Sub.refl _⟩ ⟨rfl, trivial⟩ (Sub.refl _)
                      · refine AO.weak (ρ' := [(4, (.ptr n5 0)), (73, (eBool (decide (t28 = t29))))]) (H' := [(n4, .mem (.ar 1 (p0.toList.map eU64))), (n5, .mem (.ar 1 (p1.toList.map eU64)))]) ⟨rfl, rfl, trivial⟩ (Sub.refl _) ?_
                        refine AO.calmG 16 true 73 rfl rfl (congrArg (fun b => some (AV.fl (Value.bool b))) (decide_eq_true hc30)) 75 rfl (by decide) (.ar 1 (p1.toList.map eU64)) (Calm.load 1 rfl rfl rfl (At.cast At.here rfl) ag27 (by rw [sz27]; simp [AV.size])) ?_
                        exact AO.nilE (ρ' := [(75, (.ar 1 (p1.toList.map eU64)))]) (H' := [(n4, .mem (.ar 1 (p0.toList.map eU64))), (n5, .mem (.ar 1 (p1.toList.map eU64)))]) ⟨⟨_, rfl, rfl⟩, Sub.refl _⟩ ⟨rfl, trivial⟩ (Sub.refl _)
                      · refine AO.weak (ρ' := [(73, (eBool (decide (t28 = t29)))), (74, (.ar 1 (p0.toList.map eU64))), (75, (.ar 1 (p1.toList.map eU64)))]) (H' := [(n4, .mem (.ar 1 (p0.toList.map eU64))), (n5, .mem (.ar 1 (p1.toList.map eU64)))]) ⟨rfl, rfl, rfl, trivial⟩ (Sub.refl _) ?_
                        refine AO.callG 16 true 73 [(.ar 1 (p0.toList.map eU64)), (.ar 1 (p1.toList.map eU64))] (.ar 1 (t31.toList.map eU64)) 76 rfl (by decide) ok25 rfl rfl (congrArg (fun b => some (AV.fl (Value.bool b))) (decide_eq_true hc30)) rfl rfl ⟨rfl, rfl, rfl, rfl, trivial⟩ (byteset_Less_spec et31) ?_
                        exact AO.nilE (ρ' := [(76, (.ar 1 (t31.toList.map eU64)))]) (H' := [(n4, .mem (.ar 1 (p0.toList.map eU64))), (n5, .mem (.ar 1 (p1.toList.map eU64)))]) ⟨⟨_, rfl, rfl⟩, Sub.refl _⟩ ⟨rfl, trivial⟩ (Sub.refl _)
                      · refine AO.weak (ρ' := [(3, (.ptr n4 0)), (73, (eBool (decide (t28 = t29))))]) (H' := [(n4, .mem (.ar 1 (p0.toList.map eU64))), (n5, .mem (.ar 1 (p1.toList.map eU64)))]) ⟨rfl, rfl, trivial⟩ (Sub.refl _) ?_
                        refine AO.calmG 16 true 73 rfl rfl (congrArg (fun b => some (AV.fl (Value.bool b))) (decide_eq_true hc30)) 77 rfl (by decide) (.ar 1 (p0.toList.map eU64)) (Calm.load 0 rfl rfl rfl (At.cast At.here rfl) ag27 (by rw [sz27]; simp [AV.size])) ?_
                        exact AO.nilE (ρ' := [(77, (.ar 1 (p0.toList.map eU64)))]) (H' := [(n4, .mem (.ar 1 (p0.toList.map eU64))), (n5, .mem (.ar 1 (p1.toList.map eU64)))]) ⟨⟨_, rfl, rfl⟩, Sub.refl _⟩ ⟨rfl, trivial⟩ (Sub.refl _)
                      · refine AO.weak (ρ' := [(4, (.ptr n5 0)), (73, (eBool (decide (t28 = t29))))]) (H' := [(n4, .mem (.ar 1 (p0.toList.map eU64))), (n5, .mem (.ar 1 (p1.toList.map eU64)))]) ⟨rfl, rfl, trivial⟩ (Sub.refl _) ?_
                        refine AO.calmG 16 true 73 rfl rfl (congrArg (fun b => some (AV.fl (Value.bool b))) (decide_eq_true hc30)) 78 rfl (by decide) (.ar 1 (p1.toList.map eU64)) (Calm.load 1 rfl rfl rfl (At.cast At.here rfl) ag27 (by rw [sz27]; simp [AV.size])) ?_
                        exact AO.nilE (ρ' := [(78, (.ar 1 (p1.toList.map eU64)))]) (H' := [(n4, .mem (.ar 1 (p0.toList.map eU64))), (n5, .mem (.ar 1 (p1.toList.map eU64)))]) ⟨⟨_, rfl, rfl⟩, Sub.refl _⟩ ⟨rfl, trivial⟩ (Sub.refl _)
                      · refine AO.weak (ρ' := [(73, (eBool (decide (t28 = t29)))), (77, (.ar 1 (p0.toList.map eU64))), (78, (.ar 1 (p1.toList.map eU64)))]) (H' := [(n4, .mem (.ar 1 (p0.toList.map eU64))), (n5, .mem (.ar 1 (p1.toList.map eU64)))]) ⟨rfl, rfl, rfl, trivial⟩ (Sub.refl _) ?_
                        refine AO.callG 16 true 73 [(eI64 (2 : Int)), (.ar 1 (p0.toList.map eU64)), (.ar 1 (p1.toList.map eU64))] (.ar 1 (t32.toList.map eU64)) 79 rfl (by decide) ok23 rfl rfl (congrArg (fun b => some (AV.fl (Value.bool b))) (decide_eq_true hc30)) rfl rfl ⟨rfl, rfl, rfl, rfl, rfl, rfl, trivial⟩ (bosketref02_Put_spec et32) ?_
                        exact AO.nilE (ρ' := [(79, (.ar 1 (t32.toList.map eU64)))]) (H' := [(n4, .mem (.ar 1 (p0.toList.map eU64))), (n5, .mem (.ar 1 (p1.toList.map eU64)))]) ⟨⟨_, rfl, rfl⟩, Sub.refl _⟩ ⟨rfl, trivial⟩ (Sub.refl _)
                      · refine AO.weak (ρ' := [(73, (eBool (decide (t28 = t29)))), (76, (.ar 1 (t31.toList.map eU64))), (79, (.ar 1 (t32.toList.map eU64)))]) (H' := [(n4, .mem (.ar 1 (p0.toList.map eU64))), (n5, .mem (.ar 1 (p1.toList.map eU64)))]) ⟨rfl, rfl, rfl, trivial⟩ (Sub.refl _) ?_
                        refine AO.calmG 16 true 73 rfl rfl (congrArg (fun b => some (AV.fl (Value.bool b))) (decide_eq_true hc30)) 80 rfl (by decide) (eBool (decide (t31 = t32))) (Calm.eqA rfl rfl rfl eg27 (eqa27 t31 t32) (by decide)) ?_
                        exact AO.nilE (ρ' := [(80, (eBool (decide (t31 = t32))))]) (H' := [(n4, .mem (.ar 1 (p0.toList.map eU64))), (n5, .mem (.ar 1 (p1.toList.map eU64)))]) ⟨⟨_, rfl, rfl⟩, Sub.refl _⟩ ⟨rfl, trivial⟩ (Sub.refl _)
                      · refine AO.weak (ρ' := [(73, (eBool (decide (t28 = t29)))), (80, (eBool (decide (t31 = t32))))]) (H' := [(n4, .mem (.ar 1 (p0.toList.map eU64))), (n5, .mem (.ar 1 (p1.toList.map eU64)))]) ⟨rfl, rfl, trivial⟩ (Sub.refl _) ?_
                        refine AO.calm rfl 81 rfl (by decide) (eBool (decide (t31 = t32))) (Calm.pickT rfl (congrArg (fun b => some (AV.fl (Value.bool b))) (decide_eq_true hc30)) rfl) ?_
                        exact AO.nilE (ρ' := [(81, (eBool (decide (t31 = t32))))]) (H' := [(n4, .mem (.ar 1 (p0.toList.map eU64))), (n5, .mem (.ar 1 (p1.toList.map eU64)))]) ⟨⟨_, rfl, rfl⟩, Sub.refl _⟩ ⟨rfl, trivial⟩ (Sub.refl _)
                      · refine AO.weak (ρ' := [(81, (eBool (decide (t31 = t32))))]) (H' := [(n4, .mem (.ar 1 (p0.toList.map eU64))), (n5, .mem (.ar 1 (p1.toList.map eU64)))]) ⟨rfl, trivial⟩ (Sub.refl _) ?_
                        refine AO.calm rfl 82 rfl (by decide) (eBool (decide (t31 = t32))) (Calm.move rfl rfl) ?_
                        exact AO.nilE (ρ' := [(82, (eBool (decide (t31 = t32))))]) (H' := [(n4, .mem (.ar 1 (p0.toList.map eU64))), (n5, .mem (.ar 1 (p1.toList.map eU64)))]) ⟨⟨_, rfl, rfl⟩, Sub.refl _⟩ ⟨rfl, trivial⟩ (Sub.refl _)
                      · refine AO.weak (ρ' := [(3, (.ptr n4 0)), (82, (eBool (decide (t31 = t32))))]) (H' := [(n4, .mem (.ar 1 (p0.toList.map eU64))), (n5, .mem (.ar 1 (p1.toList.map eU64)))]) ⟨rfl, rfl, trivial⟩ (Sub.refl _) ?_
                        refine AO.calmG 25 true 82 rfl rfl (congrArg (fun b => some (AV.fl (Value.bool b))) (decide_eq_true hc33)) 83 rfl (by decide) (.ar 1 (p0.toList.map eU64)) (Calm.load 0 rfl rfl rfl (At.cast At.here rfl) ag27 (by rw [sz27]; simp [AV.size])) ?_
                        exact AO.nilE (ρ' := [(83, (.ar 1 (p0.toList.map eU64)))]) (H' := [(n4, .mem (.ar 1 (p0.toList.map eU64))), (n5, .mem (.ar 1 (p1.toList.map eU64)))]) ⟨⟨_, rfl, rfl⟩, Sub.refl _⟩ ⟨rfl, trivial⟩ (Sub.refl _)
                      · refine AO.weak (ρ' := [(82, (eBool (decide (t31 = t32)))), (83, (.ar 1 (p0.toList.map eU64)))]) (H' := [(n4, .mem (.ar 1 (p0.toList.map eU64))), (n5, .mem (.ar 1 (p1.toList.map eU64)))]) ⟨rfl, rfl, trivial⟩ (Sub.refl _) ?_
                        refine AO.callG 25 true 82 [(.ar 1 (p0.toList.map eU64))] (.ar 1 (t34.toList.map eU64)) 84 rfl (by decide) ok26 rfl rfl (congrArg (fun b => some (AV.fl (Value.bool b))) (decide_eq_true hc33)) rfl rfl ⟨rfl, rfl, trivial⟩ (byteset_Not_spec et34) ?_
                        exact AO.nilE (ρ' := [(84, (.ar 1 (t34.toList.map eU64)))]) (H' := [(n4, .mem (.ar 1 (p0.toList.map eU64))), (n5, .mem (.ar 1 (p1.toList.map eU64)))]) ⟨⟨_, rfl, rfl⟩, Sub.refl _⟩ ⟨rfl, trivial⟩ (Sub.refl _)
                      · refine AO.weak (ρ' := [(3, (.ptr n4 0)), (82, (eBool (decide (t31 = t32))))]) (H' := [(n4, .mem (.ar 1 (p0.toList.map eU64))), (n5, .mem (.ar 1 (p1.toList.map eU64)))]) ⟨rfl, rfl, trivial⟩ (Sub.refl _) ?_
                        refine AO.calmG 25 true 82 rfl rfl (congrArg (fun b => some (AV.fl (Value.bool b))) (decide_eq_true hc33)) 85 rfl (by decide) (.ar 1 (p0.toList.map eU64)) (Calm.load 0 rfl rfl rfl (At.cast At.here rfl) ag27 (by rw [sz27]; simp [AV.size])) ?_
                        exact AO.nilE (ρ' := [(85, (.ar 1 (p0.toList.map eU64)))]) (H' := [(n4, .mem (.ar 1 (p0.toList.map eU64))), (n5, .mem (.ar 1 (p1.toList.map eU64)))]) ⟨⟨_, rfl, rfl⟩, Sub.refl _⟩ ⟨rfl, trivial⟩ (Sub.refl _)
                      · refine AO.weak (ρ' := [(4, (.ptr n5 0)), (82, (eBool (decide (t31 = t32))))]) (H' := [(n4, .mem (.ar 1 (p0.toList.map eU64))), (n5, .mem (.ar 1 (p1.toList.map eU64)))]) ⟨rfl, rfl, trivial⟩ (Sub.refl _) ?_
                        refine AO.calmG 25 true 82 rfl rfl (congrArg (fun b => some (AV.fl (Value.bool b))) (decide_eq_true hc33)) 86 rfl (by decide) (.ar 1 (p1.toList.map eU64)) (Calm.load 1 rfl rfl rfl (At.cast At.here rfl) ag27 (by rw [sz27]; simp [AV.size])) ?_
                        exact AO.nilE (ρ' := [(86, (.ar 1 (p1.toList.map eU64)))]) (H' := [(n4, .mem (.ar 1 (p0.toList.map eU64))), (n5, .mem (.ar 1 (p1.toList.map eU64)))]) ⟨⟨_, rfl, rfl⟩, Sub.refl _⟩ ⟨rfl, trivial⟩ (Sub.refl _)
                      · refine AO.weak (ρ' := [(82, (eBool (decide (t31 = t32)))), (85, (.ar 1 (p0.toList.map eU64))), (86, (.ar 1 (p1.toList.map eU64)))]) (H' := [(n4, .mem (.ar 1 (p0.toList.map eU64))), (n5, .mem (.ar 1 (p1.toList.map eU64)))]) ⟨rfl, rfl, rfl, trivial⟩ (Sub.refl _) ?_
                        refine AO.callG 25 true 82 [(eI64 (3 : Int)), (.ar 1 (p0.toList.map eU64)), (.ar 1 (p1.toList.map eU64))] (.ar 1 (t35.toList.map eU64)) 87 rfl (by decide) ok23 rfl rfl (congrArg (fun b => some (AV.fl (Value.bool b))) (decide_eq_true hc33)) rfl rfl ⟨rfl, rfl, rfl, rfl, rfl, rfl, trivial⟩ (bosketref02_Put_spec et35) ?_
                        exact AO.nilE (ρ' := [(87, (.ar 1 (t35.toList.map eU64)))]) (H' := [(n4, .mem (.ar 1 (p0.toList.map eU64))), (n5, .mem (.ar 1 (p1.toList.map eU64)))]) ⟨⟨_, rfl, rfl⟩, Sub.refl _⟩ ⟨rfl, trivial⟩ (Sub.refl _)
                      · refine AO.weak (ρ' := [(82, (eBool (decide (t31 = t32)))), (84, (.ar 1 (t34.toList.map eU64))), (87, (.ar 1 (t35.toList.map eU64)))]) (H' := [(n4, .mem (.ar 1 (p0.toList.map eU64))), (n5, .mem (.ar 1 (p1.toList.map eU64)))]) ⟨rfl, rfl, rfl, trivial⟩ (Sub.refl _) ?_
                        refine AO.calmG 25 true 82 rfl rfl (congrArg (fun b => some (AV.fl (Value.bool b))) (decide_eq_true hc33)) 88 rfl (by decide) (eBool (decide (t34 = t35))) (Calm.eqA rfl rfl rfl eg27 (eqa27 t34 t35) (by decide)) ?_
                        exact AO.nilE (ρ' := [(88, (eBool (decide (t34 = t35))))]) (H' := [(n4, .mem (.ar 1 (p0.toList.map eU64))), (n5, .mem (.ar 1 (p1.toList.map eU64)))]) ⟨⟨_, rfl, rfl⟩, Sub.refl _⟩ ⟨rfl, trivial⟩ (Sub.refl _)
                      · refine AO.weak (ρ' := [(82, (eBool (decide (t31 = t32)))), (88, (eBool (decide (t34 = t35))))]) (H' := [(n4, .mem (.ar 1 (p0.toList.map eU64))), (n5, .mem (.ar 1 (p1.toList.map eU64)))]) ⟨rfl, rfl, trivial⟩ (Sub.refl _) ?_
                        refine AO.calm rfl 89 rfl (by decide) (eBool (decide (t34 = t35))) (Calm.pickT rfl (congrArg (fun b => some (AV.fl (Value.bool b))) (decide_eq_true hc33)) rfl) ?_
                        exact AO.nilE (ρ' := [(89, (eBool (decide (t34 = t35))))]) (H' := [(n4, .mem (.ar 1 (p0.toList.map eU64))), (n5, .mem (.ar 1 (p1.toList.map eU64)))]) ⟨⟨_, rfl, rfl⟩, Sub.refl _⟩ ⟨rfl, trivial⟩ (Sub.refl _)
                      · refine AO.weak (ρ' := [(89, (eBool (decide (t34 = t35))))]) (H' := [(n4, .mem (.ar 1 (p0.toList.map eU64))), (n5, .mem (.ar 1 (p1.toList.map eU64)))]) ⟨rfl, trivial⟩ (Sub.refl _) ?_
                        refine AO.calm rfl 90 rfl (by decide) (eBool (decide (t34 = t35))) (Calm.move rfl rfl) ?_
                        exact AO.nilE (ρ' := [(90, (eBool (decide (t34 = t35))))]) (H' := [(n4, .mem (.ar 1 (p0.toList.map eU64))), (n5, .mem (.ar 1 (p1.toList.map eU64)))]) ⟨⟨_, rfl, rfl⟩, Sub.refl _⟩ ⟨rfl, trivial⟩ (Sub.refl _)
                      · refine AO.weak (ρ' := [(90, (eBool (decide (t34 = t35))))]) (H' := [(n4, .mem (.ar 1 (p0.toList.map eU64))), (n5, .mem (.ar 1 (p1.toList.map eU64)))]) ⟨rfl, trivial⟩ (Sub.refl _) ?_
                        refine AO.skipG 33 false 90 rfl rfl (congrArg (fun b => some (AV.fl (Value.bool b))) (decide_eq_false hc36)) 91 rfl (by decide) ?_
                        exact AO.nilE (ρ' := [(91, (.fl undef))]) (H' := [(n4, .mem (.ar 1 (p0.toList.map eU64))), (n5, .mem (.ar 1 (p1.toList.map eU64)))]) ⟨⟨_, rfl, rfl⟩, Sub.refl _⟩ ⟨rfl, trivial⟩ (Sub.refl _)
                      · refine AO.weak (ρ' := [(90, (eBool (decide (t34 = t35))))]) (H' := [(n4, .mem (.ar 1 (p0.toList.map eU64))), (n5, .mem (.ar 1 (p1.toList.map eU64)))]) ⟨rfl, trivial⟩ (Sub.refl _) ?_
                        refine AO.skipG 33 false 90 rfl rfl (congrArg (fun b => some (AV.fl (Value.bool b))) (decide_eq_false hc36)) 92 rfl (by decide) ?_
                        exact AO.nilE (ρ' := [(92, (.fl undef))]) (H' := [(n4, .mem (.ar 1 (p0.toList.map eU64))), (n5, .mem (.ar 1 (p1.toList.map eU64)))]) ⟨⟨_, rfl, rfl⟩, Sub.refl _⟩ ⟨rfl, trivial⟩ (Sub.refl _)
                      · refine AO.weak (ρ' := [(90, (eBool (decide (t34 = t35))))]) (H' := [(n4, .mem (.ar 1 (p0.toList.map eU64))), (n5, .mem (.ar 1 (p1.toList.map eU64)))]) ⟨rfl, trivial⟩ (Sub.refl _) ?_
                        refine AO.skipG 33 false 90 rfl rfl (congrArg (fun b => some (AV.fl (Value.bool b))) (decide_eq_false hc36)) 93 rfl (by decide) ?_
                        exact AO.nilE (ρ' := [(93, (.fl undef))]) (H' := [(n4, .mem (.ar 1 (p0.toList.map eU64))), (n5, .mem (.ar 1 (p1.toList.map eU64)))]) ⟨⟨_, rfl, rfl⟩, Sub.refl _⟩ ⟨rfl, trivial⟩ (Sub.refl _)
                      · refine AO.weak (ρ' := [(90, (eBool (decide (t34 = t35))))]) (H' := [(n4, .mem (.ar 1 (p0.toList.map eU64))), (n5, .mem (.ar 1 (p1.toList.map eU64)))]) ⟨rfl, trivial⟩ (Sub.refl _) ?_
                        refine AO.skipG 33 false 90 rfl rfl (congrArg (fun b => some (AV.fl (Value.bool b))) (decide_eq_false hc36)) 94 rfl (by decide) ?_
                        exact AO.nilE (ρ' := [(94, (.fl undef))]) (H' := [(n4, .mem (.ar 1 (p0.toList.map eU64))), (n5, .mem (.ar 1 (p1.toList.map eU64)))]) ⟨⟨_, rfl, rfl⟩, Sub.refl _⟩ ⟨rfl, trivial⟩ (Sub.refl _)
                      · refine AO.weak (ρ' := [(90, (eBool (decide (t34 = t35))))]) (H' := [(n4, .mem (.ar 1 (p0.toList.map eU64))), (n5, .mem (.ar 1 (p1.toList.map eU64)))]) ⟨rfl, trivial⟩ (Sub.refl _) ?_
                        refine AO.skipG 33 false 90 rfl rfl (congrArg (fun b => some (AV.fl (Value.bool b))) (decide_eq_false hc36)) 95 rfl (by decide) ?_
                        exact AO.nilE (ρ' := [(95, (.fl undef))]) (H' := [(n4, .mem (.ar 1 (p0.toList.map eU64))), (n5, .mem (.ar 1 (p1.toList.map eU64)))]) ⟨⟨_, rfl, rfl⟩, Sub.refl _⟩ ⟨rfl, trivial⟩ (Sub.refl _)
                      · refine AO.weak (ρ' := [(90, (eBool (decide (t34 = t35)))), (95, (.fl undef))]) (H' := [(n4, .mem (.ar 1 (p0.toList.map eU64))), (n5, .mem (.ar 1 (p1.toList.map eU64)))]) ⟨rfl, rfl, trivial⟩ (Sub.refl _) ?_
                        refine AO.calm rfl 96 rfl (by decide) (eBool false) (Calm.pickF rfl (congrArg (fun b => some (AV.fl (Value.bool b))) (decide_eq_false hc36)) rfl) ?_
                        exact AO.nilE (ρ' := [(96, (eBool false))]) (H' := [(n4, .mem (.ar 1 (p0.toList.map eU64))), (n5, .mem (.ar 1 (p1.toList.map eU64)))]) ⟨⟨_, rfl, rfl⟩, Sub.refl _⟩ ⟨rfl, trivial⟩ (Sub.refl _)
                      · refine AO.weak (ρ' := [(96, (eBool false))]) (H' := [(n4, .mem (.ar 1 (p0.toList.map eU64))), (n5, .mem (.ar 1 (p1.toList.map eU64)))]) ⟨rfl, trivial⟩ (Sub.refl _) ?_
                        refine AO.calm rfl 6 rfl (by decide) (eBool false) (Calm.assign rfl rfl) ?_
                        exact AO.nilE (ρ' := [(6, (eBool false))]) (H' := [(n4, .mem (.ar 1 (p0.toList.map eU64))), (n5, .mem (.ar 1 (p1.toList.map eU64)))]) ⟨⟨_, rfl, rfl⟩, Sub.refl _⟩ ⟨rfl, trivial⟩ (Sub.refl _)
                    · cases hq24
                      exact ⟨rfl, rfl, rfl⟩
                · have hq24 := (if_neg hc33).symm.trans hq24
                  refine AW.regAny (by rfl) (by decide +kernel) [(.ar 1 (p0.toList.map eU64)), (.ar 1 (p1.toList.map eU64)), (.ar 1 (t25.toList.map eU64)), (.ar 1 (p0.toList.map eU64)), (.ar 1 (p1.toList.map eU64)), (.ar 1 (t26.toList.map eU64)), (eBool (decide (t25 = t26))), (eBool (decide (t25 = t26))), (.ar 1 (p0.toList.map eU64)), (.ar 1 (p1.toList.map eU64)), (.ar 1 (t28.toList.map eU64)), (.ar 1 (p0.toList.map eU64)), (.ar 1 (p1.toList.map eU64)), (.ar 1 (t29.toList.map eU64)), (eBool (decide (t28 = t29))), (eBool (decide (t28 = t29))), (eBool (decide (t28 = t29))), (.ar 1 (p0.toList.map eU64)), (.ar 1 (p1.toList.map eU64)), (.ar 1 (t31.toList.map eU64)), (.ar 1 (p0.toList.map eU64)), (.ar 1 (p1.toList.map eU64)), (.ar 1 (t32.toList.map eU64)), (eBool (decide (t31 = t32))), (eBool (decide (t31 = t32))), (eBool (decide (t31 = t32))), (.fl undef), (.fl undef), (.fl undef), (.fl undef), (.fl undef), (.fl undef), (eBool false), (eBool false), (.fl undef), (.fl undef), (.fl undef), (.fl undef), (.fl undef), (eBool false), (eBool false)] [(3, (.ptr n4 0)), (4, (.ptr n5 0))] ⟨rfl, rfl, trivial⟩ rfl ?_ [(6, (eBool false))] [] ⟨rfl, trivial⟩ (Sub.nil _) ?_
                  · refine ⟨?_, ?_, ?_, ?_, ?_, ?_, ?_, ?_, ?_, ?_, ?_, ?_, ?_, ?_, ?_, ?_, ?_, ?_, ?_, ?_, ?_, ?_, ?_, ?_, ?_, ?_, ?_, ?_, ?_, ?_, ?_, ?_, ?_, ?_, ?_, ?_, ?_, ?_, ?_, ?_, ?_, trivial⟩
                    · refine AO.weak (ρ' := [(3, (.ptr n4 0))]) (H' := [(n4, .mem (.ar 1 (p0.toList.map eU64))), (n5, .mem (.ar 1 (p1.toList.map eU64)))]) ⟨rfl, trivial⟩ (Sub.refl _) ?_
                      refine AO.calm rfl 57 rfl (by decide) (.ar 1 (p0.toList.map eU64)) (Calm.load 0 rfl rfl rfl (At.cast At.here rfl) ag27 (by rw [sz27]; simp [AV.size])) ?_
                      exact AO.nilE (ρ' := [(57, (.ar 1 (p0.toList.map eU64)))]) (H' := [(n4, .mem (.ar 1 (p0.toList.map eU64))), (n5, .mem (.ar 1 (p1.toList.map eU64)))]) ⟨⟨_, rfl, rfl⟩, Sub.refl _⟩ ⟨rfl, trivial⟩ (Sub.refl _)
                    · refine AO.weak (ρ' := [(4, (.ptr n5 0))]) (H' := [(n4, .mem (.ar 1 (p0.toList.map eU64))), (n5, .mem (.ar 1 (p1.toList.map eU64)))]) ⟨rfl, trivial⟩ (Sub.refl _) ?_
                      refine AO.calm rfl 58 rfl (by decide) (.ar 1 (p1.toList.map eU64)) (Calm.load 1 rfl rfl rfl (At.cast At.here rfl) ag27 (by rw [sz27]; simp [AV.size])) ?_
                      exact AO.nilE (ρ' := [(58, (.ar 1 (p1.toList.map eU64)))]) (H' := [(n4, .mem (.ar 1 (p0.toList.map eU64))), (n5, .mem (.ar 1 (p1.toList.map eU64)))]) ⟨⟨_, rfl, rfl⟩, Sub.refl _⟩ ⟨rfl, trivial⟩ (Sub.refl _)
                    · refine AO.weak (ρ' := [(57, (.ar 1 (p0.toList.map eU64))), (58, (.ar 1 (p1.toList.map eU64)))]) (H' := [(n4, .mem (.ar 1 (p0.toList.map eU64))), (n5, .mem (.ar 1 (p1.toList.map eU64)))]) ⟨rfl, rfl, trivial⟩ (Sub.refl _) ?_
                      refine AO.callS [(.ar 1 (p0.toList.map eU64)), (.ar 1 (p1.toList.map eU64))] (.ar 1 (t25.toList.map eU64)) 59 rfl (by decide) ok12 rfl rfl rfl ⟨rfl, rfl, rfl, rfl, trivial⟩ (byteset_Or_spec et25) ?_
                      exact AO.nilE (ρ' := [(59, (.ar 1 (t25.toList.map eU64)))]) (H' := [(n4, .mem (.ar 1 (p0.toList.map eU64))), (n5, .mem (.ar 1 (p1.toList.map eU64)))]) ⟨⟨_, rfl, rfl⟩, Sub.refl _⟩ ⟨rfl, trivial⟩ (Sub.refl _)
                    · refine AO.weak (ρ' := [(3, (.ptr n4 0))]) (H' := [(n4, .mem (.ar 1 (p0.toList.map eU64))), (n5, .mem (.ar 1 (p1.toList.map eU64)))]) ⟨rfl, trivial⟩ (Sub.refl _) ?_
                      refine AO.calm rfl 60 rfl (by decide) (.ar 1 (p0.toList.map eU64)) (Calm.load 0 rfl rfl rfl (At.cast At.here rfl) ag27 (by rw [sz27]; simp [AV.size])) ?_
                      exact AO.nilE (ρ' := [(60, (.ar 1 (p0.toList.map eU64)))]) (H' := [(n4, .mem (.ar 1 (p0.toList.map eU64))), (n5, .mem (.ar 1 (p1.toList.map eU64)))]) ⟨⟨_, rfl, rfl⟩, Sub.refl _⟩ ⟨rfl, trivial⟩ (Sub.refl _)
                    · refine AO.weak (ρ' := [(4, (.ptr n5 0))]) (H' := [(n4, .mem (.ar 1 (p0.toList.map eU64))), (n5, .mem (.ar 1 (p1.toList.map eU64)))]) ⟨rfl, trivial⟩ (Sub.refl _) ?_
                      refine AO.calm rfl 61 rfl (by decide) (.ar 1 (p1.toList.map eU64)) (Calm.load 1 rfl rfl rfl (At.cast At.here rfl) ag27 (by rw [sz27]; simp [AV.size])) ?_
                      exact AO.nilE (ρ' := [(61, (.ar 1 (p1.toList.map eU64)))]) (H' := [(n4, .mem (.ar 1 (p0.toList.map eU64))), (n5, .mem (.ar 1 (p1.toList.map eU64)))]) ⟨⟨_, rfl, rfl⟩, Sub.refl _⟩ ⟨rfl, trivial⟩ (Sub.refl _)
                    · refine AO.weak (ρ' := [(60, (.ar 1 (p0.toList.map eU64))), (61, (.ar 1 (p1.toList.map eU64)))]) (H' := [(n4, .mem (.ar 1 (p0.toList.map eU64))), (n5, .mem (.ar 1 (p1.toList.map eU64)))]) ⟨rfl, rfl, trivial⟩ (Sub.refl _) ?_
                      refine AO.callS [(eI64 (0 : Int)), (.ar 1 (p0.toList.map eU64)), (.ar 1 (p1.toList.map eU64))] (.ar 1 (t26.toList.map eU64)) 62 rfl (by decide) ok23 rfl rfl rfl ⟨rfl, rfl, rfl, rfl, rfl, rfl, trivial⟩ (bosketref02_Put_spec et26) ?_
                      exact AO.nilE (ρ' := [(62, (.ar 1 (t26.toList.map eU64)))]) (H' := [(n4, .mem (.ar 1 (p0.toList.map eU64))), (n5, .mem (.ar 1 (p1.toList.map eU64)))]) ⟨⟨_, rfl, rfl⟩, Sub.refl _⟩ ⟨rfl, trivial⟩ (Sub.refl _)
                    · refine AO.weak (ρ' := [(59, (.ar 1 (t25.toList.map eU64))), (62, (.ar 1 (t26.toList.map eU64)))]) (H' := [(n4, .mem (.ar 1 (p0.toList.map eU64))), (n5, .mem (.ar 1 (p1.toList.map eU64)))]) ⟨rfl, rfl, trivial⟩ (Sub.refl _) ?_
                      refine AO.calm rfl 63 rfl (by decide) (eBool (decide (t25 = t26))) (Calm.eqA rfl rfl rfl eg27 (eqa27 t25 t26) (by decide)) ?_
                      exact AO.nilE (ρ' := [(63, (eBool (decide (t25 = t26))))]) (H' := [(n4, .mem (.ar 1 (p0.toList.map eU64))), (n5, .mem (.ar 1 (p1.toList.map eU64)))]) ⟨⟨_, rfl, rfl⟩, Sub.refl _⟩ ⟨rfl, trivial⟩ (Sub.refl _)
                    · refine AO.weak (ρ' := [(63, (eBool (decide (t25 = t26))))]) (H' := [(n4, .mem (.ar 1 (p0.toList.map eU64))), (n5, .mem (.ar 1 (p1.toList.map eU64)))]) ⟨rfl, trivial⟩ (Sub.refl _) ?_
                      refine AO.calm rfl 64 rfl (by decide) (eBool (decide (t25 = t26))) (Calm.move rfl rfl) ?_
                      exact AO.nilE (ρ' := [(64, (eBool (decide (t25 = t26))))]) (H' := [(n4, .mem (.ar 1 (p0.toList.map eU64))), (n5, .mem (.ar 1 (p1.toList.map eU64)))]) ⟨⟨_, rfl, rfl⟩, Sub.refl _⟩ ⟨rfl, trivial⟩ (Sub.refl _)
                    · refine AO.weak (ρ' := [(3, (.ptr n4 0)), (64, (eBool (decide (t25 = t26))))]) (H' := [(n4, .mem (.ar 1 (p0.toList.map eU64))), (n5, .mem (.ar 1 (p1.toList.map eU64)))]) ⟨rfl, rfl, trivial⟩ (Sub.refl _) ?_
                      refine AO.calmG 7 true 64 rfl rfl (congrArg (fun b => some (AV.fl (Value.bool b))) (decide_eq_true hc27)) 65 rfl (by decide) (.ar 1 (p0.toList.map eU64)) (Calm.load 0 rfl rfl rfl (At.cast At.here rfl) ag27 (by rw [sz27]; simp [AV.size])) ?_
                      exact AO.nilE (ρ' := [(65, (.ar 1 (p0.toList.map eU64)))]) (H' := [(n4, .mem (.ar 1 (p0.toList.map eU64))), (n5, .mem (.ar 1 (p1.toList.map eU64)))]) ⟨⟨_, rfl, rfl⟩, Sub.refl _⟩ ⟨rfl, trivial⟩ (Sub.refl _)
                    · refine AO.weak (ρ' := [(4, (.ptr n5 0)), (64, (eBool (decide (t25 = t26))))]) (H' := [(n4, .mem (.ar 1 (p0.toList.map eU64))), (n5, .mem (.ar 1 (p1.toList.map eU64)))]) ⟨rfl, rfl, trivial⟩ (Sub.refl _) ?_
                      refine AO.calmG 7 true 64 rfl rfl (congrArg (fun b => some (AV.fl (Value.bool b))) (decide_eq_true hc27)) 66 rfl (by decide) (.ar 1 (p1.toList.map eU64)) (Calm.load 1 rfl rfl rfl (At.cast At.here rfl) ag27 (by rw [sz27]; simp [AV.size])) ?_
                      exact AO.nilE (ρ' := [(66, (.ar 1 (p1.toList.map eU64)))]) (H' := [(n4, .mem (.ar 1 (p0.toList.map eU64))), (n5, .mem (.ar 1 (p1.toList.map eU64)))]) ⟨⟨_, rfl, rfl⟩, Sub.refl _⟩ ⟨rfl, trivial⟩ (Sub.refl _)
                    · refine AO.weak (ρ' := [(64, (eBool (decide (t25 = t26)))), (65, (.ar 1 (p0.toList.map eU64))), (66, (.ar 1 (p1.toList.map eU64)))]) (H' := [(n4, .mem (.ar 1 (p0.toList.map eU64))), (n5, .mem (.ar 1 (p1.toList.map eU64)))]) ⟨rfl, rfl, rfl, trivial⟩ (Sub.refl _) ?_
                      refine AO.callG 7 true 64 [(.ar 1 (p0.toList.map eU64)), (.ar 1 (p1.toList.map eU64))] (.ar 1 (t28.toList.map eU64)) 67 rfl (by decide) ok24 rfl rfl (congrArg (fun b => some (AV.fl (Value.bool b))) (decide_eq_true hc27)) rfl rfl ⟨rfl, rfl, rfl, rfl, trivial⟩ (byteset_And_spec et28) ?_
                      exact AO.nilE (ρ' := [(67, (.ar 1 (t28.toList.map eU64)))]) (H' := [(n4, .mem (.ar 1 (p0.toList.map eU64))), (n5, .mem (.ar 1 (p1.toList.map eU64)))]) ⟨⟨_, rfl, rfl⟩, Sub.refl _⟩ ⟨rfl, trivial⟩ (Sub.refl _)
                    · refine AO.weak (ρ' := [(3, (.ptr n4 0)), (64, (eBool (decide (t25 = t26))))]) (H' := [(n4, .mem (.ar 1 (p0.toList.map eU64))), (n5, .mem (.ar 1 (p1.toList.map eU64)))]) ⟨rfl, rfl, trivial⟩ (Sub.refl _) ?_
                      refine AO.calmG 7 true 64 rfl rfl (congrArg (fun b => some (AV.fl (Value.bool b))) (decide_eq_true hc27)) 68 rfl (by decide) (.ar 1 (p0.toList.map eU64)) (Calm.load 0 rfl rfl rfl (At.cast At.here rfl) ag27 (by rw [sz27]; simp [AV.size])) ?_
                      exact AO.nilE (ρ' := [(68, (.ar 1 (p0.toList.map eU64)))]) (H' := [(n4, .mem (.ar 1 (p0.toList.map eU64))), (n5, .mem (.ar 1 (p1.toList.map eU64)))]) ⟨⟨_, rfl, rfl⟩, Sub.refl _⟩ ⟨rfl, trivial⟩ (Sub.refl _)
                    · refine AO.weak (ρ' := [(4, (.ptr n5 0)), (64, (eBool (decide (t25 = t26))))]) (H' := [(n4, .mem (.ar 1 (p0.toList.map eU64))), (n5, .mem (.ar 1 (p1.toList.map eU64)))]) ⟨rfl, rfl, trivial⟩ (Sub.refl _) ?_
                      refine AO.calmG 7 true 64 rfl rfl (congrArg (fun b => some (AV.fl (Value.bool b))) (decide_eq_true hc27)) 69 rfl (by decide) (.ar 1 (p1.toList.map eU64)) (Calm.load 1 rfl rfl rfl (At.cast At.here rfl) ag27 (by rw [sz27]; simp [AV.size])) ?_
                      exact AO.nilE (ρ' := [(69, (.ar 1 (p1.toList.map eU64)))]) (H' := [(n4, .mem (.ar 1 (p0.toList.map eU64))), (n5, .mem (.ar 1 (p1.toList.map eU64)))]) ⟨⟨_, rfl, rfl⟩, Sub.refl _⟩ ⟨rfl, trivial⟩ (Sub.refl _)
                    · refine AO.weak (ρ' := [(64, (eBool (decide (t25 = t26)))), (68, (.ar 1 (p0.toList.map eU64))), (69, (.ar 1 (p1.toList.map eU64)))]) (H' := [(n4, .mem (.ar 1 (p0.toList.map eU64))), (n5, .mem (.ar 1 (p1.toList.map eU64)))]) ⟨rfl, rfl, rfl, trivial⟩ (Sub.refl _) ?_
                      refine AO.callG 7 true 64 [(eI64 (1 : Int)), (.ar 1 (p0.toList.map eU64)), (.ar 1 (p1.toList.map eU64))] (.ar 1 (t29.toList.map eU64)) 70 rfl (by decide) ok23 rfl rfl (congrArg (fun b => some (AV.fl (Value.bool b))) (decide_eq_true hc27)) rfl rfl ⟨rfl, rfl, rfl, rfl, rfl, rfl, trivial⟩ (bosketref02_Put_spec et29) ?_
                      exact AO.nilE (ρ' := [(70, (.ar 1 (t29.toList.map eU64)))]) (H' := [(n4, .mem (.ar 1 (p0.toList.map eU64))), (n5, .mem (.ar 1 (p1.toList.map eU64)))]) ⟨⟨_, rfl, rfl⟩, Sub.refl _⟩ ⟨rfl, trivial⟩ (Sub.refl _)
                    · refine AO.weak (ρ' := [(64, (eBool (decide (t25 = t26)))), (67, (.ar 1 (t28.toList.map eU64))), (70, (.ar 1 (t29.toList.map eU64)))]) (H' := [(n4, .mem (.ar 1 (p0.toList.map eU64))), (n5, .mem (.ar 1 (p1.toList.map eU64)))]) ⟨rfl, rfl, rfl, trivial⟩ (Sub.refl _) ?_
                      refine AO.calmG 7 true 64 rfl rfl (congrArg (fun b => some (AV.fl (Value.bool b))) (decide_eq_true hc27)) 71 rfl (by decide) (eBool (decide (t28 = t29))) (Calm.eqA rfl rfl rfl eg27 (eqa27 t28 t29) (by decide)) ?_
                      exact AO.nilE (ρ' := [(71, (eBool (decide (t28 = t29))))]) (H' := [(n4, .mem (.ar 1 (p0.toList.map eU64))), (n5, .mem (.ar 1 (p1.toList.map eU64)))]) ⟨⟨_, rfl, rfl⟩, Sub.refl _⟩ ⟨rfl, trivial⟩ (Sub.refl _)
                    · refine AO.weak (ρ' := [(64, (eBool (decide (t25 = t26)))), (71, (eBool (decide (t28 = t29))))]) (H' := [(n4, .mem (.ar 1 (p0.toList.map eU64))), (n5, .mem (.ar 1 (p1.toList.map eU64)))]) ⟨rfl, rfl, trivial⟩ (Sub.refl _) ?_
                      refine AO.calm rfl 72 rfl (by decide) (eBool (decide (t28 = t29))) (Calm.pickT rfl (congrArg (fun b => some (AV.fl (Value.bool b))) (decide_eq_true hc27)) rfl) ?_
                      exact AO.nilE (ρ' := [(72, (eBool (decide (t28 = t29))))]) (H' := [(n4, .mem (.ar 1 (p0.toList.map eU64))), (n5, .mem (.ar 1 (p1.toList.map eU64)))]) ⟨⟨_, rfl, rfl⟩, Sub.refl _⟩ ⟨rfl, trivial⟩ (Sub.refl _)
                    · refine AO.weak (ρ' := [(72, (eBool (decide (t28 = t29))))]) (H' := [(n4, .mem (.ar 1 (p0.toList.map eU64))), (n5, .mem (.ar 1 (p1.toList.map eU64)))]) ⟨rfl, trivial⟩ (Sub.refl _) ?_
                      refine AO.calm rfl 73 rfl (by decide) (eBool (decide (t28 = t29))) (Calm.move rfl rfl) ?_
                      exact AO.nilE (ρ' := [(73, (eBool (decide (t28 = t29))))]) (H' := [(n4, .mem (.ar 1 (p0.toList.map eU64))), (n5, .mem (.ar 1 (p1.toList.map eU64)))]) ⟨⟨_, rfl, rfl⟩, Sub.refl _⟩ ⟨rfl, trivial⟩ (Sub.refl _)
                    · refine AO.weak (ρ' := [(3, (.ptr n4 0)), (73, (eBool (decide (t28 = t29))))]) (H' := [(n4, .mem (.ar 1 (p0.toList.map eU64))), (n5, .mem (.ar 1 (p1.toList.map eU64)))]) ⟨rfl, rfl, trivial⟩ (Sub.refl _) ?_
                      refine AO.calmG 16 true 73 rfl rfl (congrArg (fun b => some (AV.fl (Value.bool b))) (decide_eq_true hc30)) 74 rfl (by decide) (.ar 1 (p0.toList.map eU64)) (Calm.load 0 rfl rfl rfl (At.cast At.here rfl) ag27 (by rw [sz27]; simp [AV.size])) ?_
                      exact AO.nilE (ρ' := [(74, (.ar 1 (p0.toList.map eU64)))]) (H' := [(n4, .mem (.ar 1 (p0.toList.map eU64))), (n5, .mem (.ar 1 (p1.toList.map eU64)))]) ⟨⟨_, rfl, rfl⟩, Sub.refl _⟩ ⟨rfl, trivial⟩ (Sub.refl _)
                    · refine AO.weak (ρ' := [(4, (.ptr n5 0)), (73, (eBool (decide (t28 = t29))))]) (H' := [(n4, .mem (.ar 1 (p0.toList.map eU64))), (n5, .mem (.ar 1 (p1.toList.map eU64)))]) ⟨rfl, rfl, trivial⟩ (Sub.refl _) ?_
                      refine AO.calmG 16 true 73 rfl rfl (congrArg (fun b => some (AV.fl (Value.bool b))) (decide_eq_true hc30)) 75 rfl (by decide) (.ar 1 (p1.toList.map eU64)) (Calm.load 1 rfl rfl rfl (At.cast At.here rfl) ag27 (by rw [sz27]; simp [AV.size])) ?_
                      exact AO.nilE (ρ' := [(75, (.ar 1 (p1.toList.map eU64)))]) (H' := [(n4, .mem (.ar 1 (p0.toList.map eU64))), (n5, .mem (.ar 1 (p1.toList.map eU64)))]) ⟨⟨_, rfl, rfl⟩, Sub.refl _⟩ ⟨rfl, trivial⟩ (Sub.refl _)
                    · refine AO.weak (ρ' := [(73, (eBool (decide (t28 = t29)))), (74, (.ar 1 (p0.toList.map eU64))), (75, (.ar 1 (p1.toList.map eU64)))]) (H' := [(n4, .mem (.ar 1 (p0.toList.map eU64))), (n5, .mem (.ar 1 (p1.toList.map eU64)))]) ⟨rfl, rfl, rfl, trivial⟩ (Sub.refl _) ?_
                      refine AO.callG 16 true 73 [(.ar 1 (p0.toList.map eU64)), (.ar 1 (p1.toList.map eU64))] (.ar 1 (t31.toList.map eU64)) 76 rfl (by decide) ok25 rfl rfl (congrArg (fun b => some (AV.fl (Value.bool b))) (decide_eq_true hc30)) rfl rfl ⟨rfl, rfl, rfl, rfl, trivial⟩ (byteset_Less_spec et31) ?_
                      exact AO.nilE (ρ' := [(76, (.ar 1 (t31.toList.map eU64)))]) (H' := [(n4, .mem (.ar 1 (p0.toList.map eU64))), (n5, .mem (.ar 1 (p1.toList.map eU64)))]) ⟨⟨_, rfl, rfl⟩, Sub.refl _⟩ ⟨rfl, trivial⟩ (Sub.refl _)
                    · refine AO.weak (ρ' := [(3, (.ptr n4 0)), (73, (eBool (decide (t28 = t29))))]) (H' := [(n4, .mem (.ar 1 (p0.toList.map eU64))), (n5, .mem (.ar 1 (p1.toList.map eU64)))]) ⟨rfl, rfl, trivial⟩ (Sub.refl _) ?_
                      refine AO.calmG 16 true 73 rfl rfl (congrArg (fun b => some (AV.fl (Value.bool b))) (decide_eq_true hc30)) 77 rfl (by decide) (.ar 1 (p0.toList.map eU64)) (Calm.load 0 rfl rfl rfl (At.cast At.here rfl) ag27 (by rw [sz27]; simp [AV.size])) ?_
                      exact AO.nilE (ρ' := [(77, (.ar 1 (p0.toList.map eU64)))]) (H' := [(n4, .mem (.ar 1 (p0.toList.map eU64))), (n5, .mem (.ar 1 (p1.toList.map eU64)))]) ⟨⟨_, rfl, rfl⟩, Sub.refl _⟩ ⟨rfl, trivial⟩ (Sub.refl _)
                    · refine AO.weak (ρ' := [(4, (.ptr n5 0)), (73, (eBool (decide (t28 = t29))))]) (H' := [(n4, .mem (.ar 1 (p0.toList.map eU64))), (n5, .mem (.ar 1 (p1.toList.map eU64)))]) ⟨rfl, rfl, trivial⟩ (Sub.refl _) ?_
                      refine AO.calmG 16 true 73 rfl rfl (congrArg (fun b => some (AV.fl (Value.bool b))) (decide_eq_true hc30)) 78 rfl (by decide) (.ar 1 (p1.toList.map eU64)) (Calm.load 1 rfl rfl rfl (At.cast At.here rfl) ag27 (by rw [sz27]; simp [AV.size])) ?_
                      exact AO.nilE (ρ' := [(78, (.ar 1 (p1.toList.map eU64)))]) (H' := [(n4, .mem (.ar 1 (p0.toList.map eU64))), (n5, .mem (.ar 1 (p1.toList.map eU64)))]) ⟨⟨_, rfl, rfl⟩, Sub.refl _⟩ ⟨rfl, trivial⟩ (Sub.refl _)
                    · refine AO.weak (ρ' := [(73, (eBool (decide (t28 = t29)))), (77, (.ar 1 (p0.toList.map eU64))), (78, (.ar 1 (p1.toList.map eU64)))]) (H' := [(n4, .mem (.ar 1 (p0.toList.map eU64))), (n5, .mem (.ar 1 (p1.toList.map eU64)))]) ⟨rfl, rfl, rfl, trivial⟩ (Sub.refl _) ?_
                      refine AO.callG 16 true 73 [(eI64 (2 : Int)), (.ar 1 (p0.toList.map eU64)), (.ar 1 (p1.toList.map eU64))] (.ar 1 (t32.toList.map eU64)) 79 rfl (by decide) ok23 rfl rfl (congrArg (fun b => some (AV.fl (Value.bool b))) (decide_eq_true hc30)) rfl rfl ⟨rfl, rfl, rfl, rfl, rfl, rfl, trivial⟩ (bosketref02_Put_spec et32) ?_
                      exact AO.nilE (ρ' := [(79, (.ar 1 (t32.toList.map eU64)))]) (H' := [(n4, .mem (.ar 1 (p0.toList.map eU64))), (n5, .mem (.ar 1 (p1.toList.map eU64)))]) ⟨⟨_, rfl, rfl⟩, Sub.refl _⟩ ⟨rfl, trivial⟩ (Sub.refl _)
                    · refine AO.weak (ρ' := [(73, (eBool (decide (t28 = t29)))), (76, (.ar 1 (t31.toList.map eU64))), (79, (.ar 1 (t32.toList.map eU64)))]) (H' := [(n4, .mem (.ar 1 (p0.toList.map eU64))), (n5, .mem (.ar 1 (p1.toList.map eU64)))]) ⟨rfl, rfl, rfl, trivial⟩ (Sub.refl _) ?_
                      refine AO.calmG 16 true 73 rfl rfl (congrArg (fun b => some (AV.fl (Value.bool b))) (decide_eq_true hc30)) 80 rfl (by decide) (eBool (decide (t31 = t32))) (Calm.eqA rfl rfl rfl eg27 (eqa27 t31 t32) (by decide)) ?_
                      exact AO.nilE (ρ' := [(80, (eBool (decide (t31 = t32))))]) (H' := [(n4, .mem (.ar 1 (p0.toList.map eU64))), (n5, .mem (.ar 1 (p1.toList.map eU64)))]) ⟨⟨_, rfl, rfl⟩, Sub.refl _⟩ ⟨rfl, trivial⟩ (Sub.refl _)
                    · refine AO.weak (ρ' := [(73, (eBool (decide (t28 = t29)))), (80, (eBool (decide (t31 = t32))))]) (H' := [(n4, .mem (.ar 1 (p0.toList.map eU64))), (n5, .mem (.ar 1 (p1.toList.map eU64)))]) ⟨rfl, rfl, trivial⟩ (Sub.refl _) ?_
                      refine AO.calm rfl 81 rfl (by decide) (eBool (decide (t31 = t32))) (Calm.pickT rfl (congrArg (fun b => some (AV.fl (Value.bool b))) (decide_eq_true hc30)) rfl) ?_
                      exact AO.nilE (ρ' := [(81, (eBool (decide (t31 = t32))))]) (H' := [(n4, .mem (.ar 1 (p0.toList.map eU64))), (n5, .mem (.ar 1 (p1.toList.map eU64)))]) ⟨⟨_, rfl, rfl⟩, Sub.refl _⟩ ⟨rfl, trivial⟩ (Sub.refl _)
                    · refine AO.weak (ρ' := [(81, (eBool (decide (t31 = t32))))]) (H' := [(n4, .mem (.ar 1 (p0.toList.map eU64))), (n5, .mem (.ar 1 (p1.toList.map eU64)))]) ⟨rfl, trivial⟩ (Sub.refl _) ?_
                      refine AO.calm rfl 82 rfl (by decide) (eBool (decide (t31 = t32))) (Calm.move rfl rfl) ?_
                      exact AO.nilE (ρ' := [(82, (eBool (decide (t31 = t32))))]) (H' := [(n4, .mem (.ar 1 (p0.toList.map eU64))), (n5, .mem (.ar 1 (p1.toList.map eU64)))]) ⟨⟨_, rfl, rfl⟩, Sub.refl _⟩ ⟨rfl, trivial⟩ (Sub.refl _)
                    · refine AO.weak (ρ' := [(82, (eBool (decide (t31 = t32))))]) (H' := [(n4, .mem (.ar 1 (p0.toList.map eU64))), (n5, .mem (.ar 1 (p1.toList.map eU64)))]) ⟨rfl, trivial⟩ (Sub.refl _) ?_
                      refine AO.skipG 25 false 82 rfl rfl (congrArg (fun b => some (AV.fl (Value.bool b))) (decide_eq_false hc33)) 83 rfl (by decide) ?_
                      exact AO.nilE (ρ' := [(83, (.fl undef))]) (H' := [(n4, .mem (.ar 1 (p0.toList.map eU64))), (n5, .mem (.ar 1 (p1.toList.map eU64)))]) ⟨⟨_, rfl, rfl⟩, Sub.refl _⟩ ⟨rfl, trivial⟩ (Sub.refl _)
                    · refine AO.weak (ρ' := [(82, (eBool (decide (t31 = t32))))]) (H' := [(n4, .mem (.ar 1 (p0.toList.map eU64))), (n5, .mem (.ar 1 (p1.toList.map eU64)))]) ⟨rfl, trivial⟩ (Sub.refl _) ?_
                      refine AO.skipG 25 false 82 rfl rfl (congrArg (fun b => some (AV.fl (Value.bool b))) (decide_eq_false hc33)) 84 rfl (by decide) ?_
                      exact AO.nilE (ρ' := [(84, (.fl undef))]) (H' := [(n4, .mem (.ar 1 (p0.toList.map eU64))), (n5, .mem (.ar 1 (p1.toList.map eU64)))]) ⟨⟨_, rfl, rfl⟩, Sub.refl _⟩ ⟨rfl, trivial⟩ (Sub.refl _)
                    · refine AO.weak (ρ' := [(82, (eBool (decide (t31 = t32))))]) (H' := [(n4, .mem (.ar 1 (p0.toList.map eU64))), (n5, .mem (.ar 1 (p1.toList.map eU64)))]) ⟨rfl, trivial⟩ (Sub.refl _) ?_
                      refine AO.skipG 25 false 82 rfl rfl (congrArg (fun b => some (AV.fl (Value.bool b))) (decide_eq_false hc33)) 85 rfl (by decide) ?_
                      exact AO.nilE (ρ' := [(85, (.fl undef))]) (H' := [(n4, .mem (.ar 1 (p0.toList.map eU64))), (n5, .mem (.ar 1 (p1.toList.map eU64)))]) ⟨⟨_, rfl, rfl⟩, Sub.refl _⟩ ⟨rfl, trivial⟩ (Sub.refl _)
                    · refine AO.weak (ρ' := [(82, (eBool (decide (t31 = t32))))]) (H' := [(n4, .mem (.ar 1 (p0.toList.map eU64))), (n5, .mem (.ar 1 (p1.toList.map eU64)))]) ⟨rfl, trivial⟩ (Sub.refl _) ?_
                      refine AO.skipG 25 false 82 rfl rfl (congrArg (fun b => some (AV.fl (Value.bool b))) (decide_eq_false hc33)) 86 rfl (by decide) ?_
                      exact AO.nilE (ρ' := [(86, (.fl undef))]) (H' := [(n4, .mem (.ar 1 (p0.toList.map eU64))), (n5, .mem (.ar 1 (p1.toList.map eU64)))]) ⟨⟨_, rfl, rfl⟩, Sub.refl _⟩ ⟨rfl, trivial⟩ (Sub.refl _)
                    · refine AO.weak (ρ' := [(82, (eBool (decide (t31 = t32))))]) (H' := [(n4, .mem (.ar 1 (p0.toList.map eU64))), (n5, .mem (.ar 1 (p1.toList.map eU64)))]) ⟨rfl, trivial⟩ (Sub.refl _) ?_
                      refine AO.skipG 25 false 82 rfl rfl (congrArg (fun b => some (AV.fl (Value.bool b))) (decide_eq_false hc33)) 87 rfl (by decide) ?_
                      exact AO.nilE (ρ' := [(87, (.fl undef))]) (H' := [(n4, .mem (.ar 1 (p0.toList.map eU64))), (n5, .mem (.ar 1 (p1.toList.map eU64)))]) ⟨⟨_, rfl, rfl⟩, Sub.refl _⟩ ⟨rfl, trivial⟩ (Sub.refl _)
                    · refine AO.weak (ρ' := [(82, (eBool (decide (t31 = t32))))]) (H' := [(n4, .mem (.ar 1 (p0.toList.map eU64))), (n5, .mem (.ar 1 (p1.toList.map eU64)))]) ⟨rfl, trivial⟩ (Sub.refl _) ?_
                      refine AO.skipG 25 false 82 rfl rfl (congrArg (fun b => some (AV.fl (Value.bool b))) (decide_eq_false hc33)) 88 rfl (by decide) ?_
                      exact AO.nilE (ρ' := [(88, (.fl undef))]) (H' := [(n4, .mem (.ar 1 (p0.toList.map eU64))), (n5, .mem (.ar 1 (p1.toList.map eU64)))]) ⟨⟨_, rfl, rfl⟩, Sub.refl _⟩ ⟨rfl, trivial⟩ (Sub.refl _)
                    · refine AO.weak (ρ' := [(82, (eBool (decide (t31 = t32)))), (88, (.fl undef))]) (H' := [(n4, .mem (.ar 1 (p0.toList.map eU64))), (n5, .mem (.ar 1 (p1.toList.map eU64)))]) ⟨rfl, rfl, trivial⟩ (Sub.refl _) ?_
                      refine AO.calm rfl 89 rfl (by decide) (eBool false) (Calm.pickF rfl (congrArg (fun b => some (AV.fl (Value.bool b))) (decide_eq_false hc33)) rfl) ?_
                      exact AO.nilE (ρ' := [(89, (eBool false))]) (H' := [(n4, .mem (.ar 1 (p0.toList.map eU64))), (n5, .mem (.ar 1 (p1.toList.map eU64)))]) ⟨⟨_, rfl, rfl⟩, Sub.refl _⟩ ⟨rfl, trivial⟩ (Sub.refl _)
                    · refine AO.weak (ρ' := [(89, (eBool false))]) (H' := [(n4, .mem (.ar 1 (p0.toList.map eU64))), (n5, .mem (.ar 1 (p1.toList.map eU64)))]) ⟨rfl, trivial⟩ (Sub.refl _) ?_
                      refine AO.calm rfl 90 rfl (by decide) (eBool false) (Calm.move rfl rfl) ?_
                      exact AO.nilE (ρ' := [(90, (eBool false))]) (H' := [(n4, .mem (.ar 1 (p0.toList.map eU64))), (n5, .mem (.ar 1 (p1.toList.map eU64)))]) ⟨⟨_, rfl, rfl⟩, Sub.refl _⟩ ⟨rfl, trivial⟩ (Sub.refl _)
                    · refine AO.weak (ρ' := [(90, (eBool false))]) (H' := [(n4, .mem (.ar 1 (p0.toList.map eU64))), (n5, .mem (.ar 1 (p1.toList.map eU64)))]) ⟨rfl, trivial⟩ (Sub.refl _) ?_
                      refine AO.skipG 33 false 90 rfl rfl rfl 91 rfl (by decide) ?_
                      exact AO.nilE (ρ' := [(91, (.fl undef))]) (H' := [(n4, .mem (.ar 1 (p0.toList.map eU64))), (n5, .mem (.ar 1 (p1.toList.map eU64)))]) ⟨⟨_, rfl, rfl⟩, Sub.refl _⟩ ⟨rfl, trivial⟩ (Sub.refl _)
                    · refine AO.weak (ρ' := [(90, (eBool false))]) (H' := [(n4, .mem (.ar 1 (p0.toList.map eU64))), (n5, .mem (.ar 1 (p1.toList.map eU64)))]) ⟨rfl, trivial⟩ (Sub.refl _) ?_
                      refine AO.skipG 33 false 90 rfl rfl rfl 92 rfl (by decide) ?_
                      exact AO.nilE (ρ' := [(92, (.fl undef))]) (H' := [(n4, .mem (.ar 1 (p0.toList.map eU64))), (n5, .mem (.ar 1 (p1.toList.map eU64)))]) ⟨⟨_, rfl, rfl⟩, Sub.refl _⟩ ⟨rfl, trivial⟩ (Sub.refl _)
                    · refine AO.weak (ρ' := [(90, (eBool false))]) (H' := [(n4, .mem (.ar 1 (p0.toList.map eU64))), (n5, .mem (.ar 1 (p1.toList.map eU64)))]) ⟨rfl, trivial⟩ (Sub.refl _) ?_
                      refine AO.skipG 33 false 90 rfl rfl rfl 93 rfl (by decide) ?_
                      exact AO.nilE (ρ' := [(93, (.fl undef))]) (H' := [(n4, .mem (.ar 1 (p0.toList.map eU64))), (n5, .mem (.ar 1 (p1.toList.map eU64)))]) ⟨⟨_, rfl, rfl⟩, Sub.refl _⟩ ⟨rfl, trivial⟩ (Sub.refl _)
                    · refine AO.weak (ρ' := [(90, (eBool false))]) (H' := [(n4, .mem (.ar 1 (p0.toList.map eU64))), (n5, .mem (.ar 1 (p1.toList.map eU64)))]) ⟨rfl, trivial⟩ (Sub.refl _) ?_
                      refine AO.skipG 33 false 90 rfl rfl rfl 94 rfl (by decide) ?_
                      exact AO.nilE (ρ' := [(94, (.fl undef))]) (H' := [(n4, .mem (.ar 1 (p0.toList.map eU64))), (n5, .mem (.ar 1 (p1.toList.map eU64)))]) ⟨⟨_, rfl, rfl⟩, Sub.refl _⟩ ⟨rfl, trivial⟩ (Sub.refl _)
                    · refine AO.weak (ρ' := [(90, (eBool false))]) (H' := [(n4, .mem (.ar 1 (p0.toList.map eU64))), (n5, .mem (.ar 1 (p1.toList.map eU64)))]) ⟨rfl, trivial⟩ (Sub.refl _) ?_
                      refine AO.skipG 33 false 90 rfl rfl rfl 95 rfl (by decide) ?_
                      exact AO.nilE (ρ' := [(95, (.fl undef))]) (H' := [(n4, .mem (.ar 1 (p0.toList.map eU64))), (n5, .mem (.ar 1 (p1.toList.map eU64)))]) ⟨⟨_, rfl, rfl⟩, Sub.refl _⟩ ⟨rfl, trivial⟩ (Sub.refl _)
                    · refine AO.weak (ρ' := [(90, (eBool false)), (95, (.fl undef))]) (H' := [(n4, .mem (.ar 1 (p0.toList.map eU64))), (n5, .mem (.ar 1 (p1.toList.map eU64)))]) ⟨rfl, rfl, trivial⟩ (Sub.refl _) ?_
                      refine AO.calm rfl 96 rfl (by decide) (eBool false) (Calm.pickF rfl rfl rfl) ?_
                      exact AO.nilE (ρ' := [(96, (eBool false))]) (H' := [(n4, .mem (.ar 1 (p0.toList.map eU64))), (n5, .mem (.ar 1 (p1.toList.map eU64)))]) ⟨⟨_, rfl, rfl⟩, Sub.refl _⟩ ⟨rfl, trivial⟩ (Sub.refl _)
                    · refine AO.weak (ρ' := [(96, (eBool false))]) (H' := [(n4, .mem (.ar 1 (p0.toList.map eU64))), (n5, .mem (.ar 1 (p1.toList.map eU64)))]) ⟨rfl, trivial⟩ (Sub.refl _) ?_
                      refine AO.calm rfl 6 rfl (by decide) (eBool false) (Calm.assign rfl rfl) ?_
                      exact AO.nilE (ρ' := [(6, (eBool false))]) (H' := [(n4, .mem (.ar 1 (p0.toList.map eU64))), (n5, .mem (.ar 1 (p1.toList.map eU64)))]) ⟨⟨_, rfl, rfl⟩, Sub.refl _⟩ ⟨rfl, trivial⟩ (Sub.refl _)
                  · cases hq24
                    exact ⟨rfl, rfl, rfl⟩
              · have hq24 := (if_neg hc30).symm.trans hq24
                refine AW.regAny (by rfl) (by decide +kernel) [(.ar 1 (p0.toList.map eU64)), (.ar 1 (p1.toList.map eU64)), (.ar 1 (t25.toList.map eU64)), (.ar 1 (p0.toList.map eU64)), (.ar 1 (p1.toList.map eU64)), (.ar 1 (t26.toList.map eU64)), (eBool (decide (t25 = t26))), (eBool (decide (t25 = t26))), (.ar 1 (p0.toList.map eU64)), (.ar 1 (p1.toList.map eU64)), (.ar 1 (t28.toList.map eU64)), (.ar 1 (p0.toList.map eU64)), (.ar 1 (p1.toList.map eU64)), (.ar 1 (t29.toList.map eU64)), (eBool (decide (t28 = t29))), (eBool (decide (t28 = t29))), (eBool (decide (t28 = t29))), (.fl undef), (.fl undef), (.fl undef), (.fl undef), (.fl undef), (.fl undef), (.fl undef), (eBool false), (eBool false), (.fl undef), (.fl undef), (.fl undef), (.fl undef), (.fl undef), (.fl undef), (eBool false), (eBool false), (.fl undef), (.fl undef), (.fl undef), (.fl undef), (.fl undef), (eBool false), (eBool false)] [(3, (.ptr n4 0)), (4, (.ptr n5 0))] ⟨rfl, rfl, trivial⟩ rfl ?_ [(6, (eBool false))] [] ⟨rfl, trivial⟩ (Sub.nil _) ?_
                · refine ⟨?_, ?_, ?_, ?_, ?_, ?_, ?_, ?_, ?_, ?_, ?_, ?_, ?_, ?_, ?_, ?_, ?_, ?_, ?_, ?_, ?_, ?_, ?_, ?_, ?_, ?_, ?_, ?_, ?_, ?_, ?_, ?_, ?_, ?_, ?_, ?_, ?_, ?_, ?_, ?_, ?_, trivial⟩
                  · refine AO.weak (ρ' := [(3, (.ptr n4 0))]) (H' := [(n4, .mem (.ar 1 (p0.toList.map eU64))), (n5, .mem (.ar 1 (p1.toList.map eU64)))]) ⟨rfl, trivial⟩ (Sub.refl _) ?_
                    refine AO.calm rfl 57 rfl (by decide) (.ar 1 (p0.toList.map eU64)) (Calm.load 0 rfl rfl rfl (At.cast At.here rfl) ag27 (by rw [sz27]; simp [AV.size])) ?_
                    exact AO.nilE (ρ' := [(57, (.ar 1 (p0.toList.map eU64)))]) (H' := [(n4, .mem (.ar 1 (p0.toList.map eU64))), (n5, .mem (.ar 1 (p1.toList.map eU64)))]) ⟨⟨_, rfl, rfl⟩, Sub.refl _⟩ ⟨rfl, trivial⟩ (Sub.refl _)
                  · refine AO.weak (ρ' := [(4, (.ptr n5 0))]) (H' := [(n4, .mem (.ar 1 (p0.toList.map eU64))), (n5, .mem (.ar 1 (p1.toList.map eU64)))]) ⟨rfl, trivial⟩ (Sub.refl _) ?_
                    refine AO.calm rfl 58 rfl (by decide) (.ar 1 (p1.toList.map eU64)) (Calm.load 1 rfl rfl rfl (At.cast At.here rfl) ag27 (by rw [sz27]; simp [AV.size])) ?_
                    exact AO.nilE (ρ' := [(58, (.ar 1 (p1.toList.map eU64)))]) (H' := [(n4, .mem (.ar 1 (p0.toList.map eU64))), (n5, .mem (.ar 1 (p1.toList.map eU64)))]) ⟨⟨_, rfl, rfl⟩, Sub.refl _⟩ ⟨rfl, trivial⟩ (Sub.refl _)
                  · refine AO.weak (ρ' := [(57, (.ar 1 (p0.toList.map eU64))), (58, (.ar 1 (p1.toList.map eU64)))]) (H' := [(n4, .mem (.ar 1 (p0.toList.map eU64))), (n5, .mem (.ar 1 (p1.toList.map eU64)))]) ⟨rfl, rfl, trivial⟩ (Sub.refl _) ?_
                    refine AO.callS [(.ar 1 (p0.toList.map eU64)), (.ar 1 (p1.toList.map eU64))] (.ar 1 (t25.toList.map eU64)) 59 rfl (by decide) ok12 rfl rfl rfl ⟨rfl, rfl, rfl, rfl, trivial⟩ (byteset_Or_spec et25) ?_
                    exact AO.nilE (ρ' := [(59, (.ar 1 (t25.toList.map eU64)))]) (H' := [(n4, .mem (.ar 1 (p0.toList.map eU64))), (n5, .mem (.ar 1 (p1.toList.map eU64)))]) ⟨⟨_, rfl, rfl⟩, Sub.refl _⟩ ⟨rfl, trivial⟩ (Sub.refl _)
                  · refine AO.weak (ρ' := [(3, (.ptr n4 0))]) (H' := [(n4, .mem (.ar 1 (p0.toList.map eU64))), (n5, .mem (.ar 1 (p1.toList.map eU64)))]) ⟨rfl, trivial⟩ (Sub.refl _) ?_
                    refine AO.calm rfl 60 rfl (by decide) (.ar 1 (p0.toList.map eU64)) (Calm.load 0 rfl rfl rfl (At.cast At.here rfl) ag27 (by rw [sz27]; simp [AV.size])) ?_
                    exact AO.nilE (ρ' := [(60, (.ar 1 (p0.toList.map eU64)))]) (H' := [(n4, .mem (.ar 1 (p0.toList.map eU64))), (n5, .mem (.ar 1 (p1.toList.map eU64)))]) ⟨⟨_, rfl, rfl⟩, Sub.refl _⟩ ⟨rfl, trivial⟩ (Sub.refl _)
                  · refine AO.weak (ρ' := [(4, (.ptr n5 0))]) (H' := [(n4, .mem (.ar 1 (p0.toList.map eU64))), (n5, .mem (.ar 1 (p1.toList.map eU64)))]) ⟨rfl, trivial⟩ (Sub.refl _) ?_
                    refine AO.calm rfl 61 rfl (by decide) (.ar 1 (p1.toList.map eU64)) (Calm.load 1 rfl rfl rfl (At.cast At.here rfl) ag27 (by rw [sz27]; simp [AV.size])) ?_
                    exact AO.nilE (ρ' := [(61, (.ar 1 (p1.toList.map eU64)))]) (H' := [(n4, .mem (.ar 1 (p0.toList.map eU64))), (n5, .mem (.ar 1 (p1.toList.map eU64)))]) ⟨⟨_, rfl, rfl⟩, Sub.refl _⟩ ⟨rfl, trivial⟩ (Sub.refl _)
                  · refine AO.weak (ρ' := [(60, (.ar 1 (p0.toList.map eU64))), (61, (.ar 1 (p1.toList.map eU64)))]) (H' := [(n4, .mem (.ar 1 (p0.toList.map eU64))), (n5, .mem (.ar 1 (p1.toList.map eU64)))]) ⟨rfl, rfl, trivial⟩ (Sub.refl _) ?_
                    refine AO.callS [(eI64 (0 : Int)), (.ar 1 (p0.toList.map eU64)), (.ar 1 (p1.toList.map eU64))] (.ar 1 (t26.toList.map eU64)) 62 rfl (by decide) ok23 rfl rfl rfl ⟨rfl, rfl, rfl, rfl, rfl, rfl, trivial⟩ (bosketref02_Put_spec et26) ?_
                    exact AO.nilE (ρ' := [(62, (.ar 1 (t26.toList.map eU64)))]) (H' := [(n4, .mem (.ar 1 (p0.toList.map eU64))), (n5, .mem (.ar 1 (p1.toList.map eU64)))]) ⟨⟨_, rfl, rfl⟩, Sub.refl _⟩ ⟨rfl, trivial⟩ (Sub.refl _)
                  · refine AO.weak (ρ' := [(59, (.ar 1 (t25.toList.map eU64))), (62, (.ar 1 (t26.toList.map eU64)))]) (H' := [(n4, .mem (.ar 1 (p0.toList.map eU64))), (n5, .mem (.ar 1 (p1.toList.map eU64)))]) ⟨rfl, rfl, trivial⟩ (Sub.refl _) ?_
                    refine AO.calm rfl 63 rfl (by decide) (eBool (decide (t25 = t26))) (Calm.eqA rfl rfl rfl eg27 (eqa27 t25 t26) (by decide)) ?_
                    exact AO.nilE (ρ' := [(63, (eBool (decide (t25 = t26))))]) (H' := [(n4, .mem (.ar 1 (p0.toList.map eU64))), (n5, .mem (.ar 1 (p1.toList.map eU64)))]) ⟨⟨_, rfl, rfl⟩, Sub.refl _⟩ ⟨rfl, trivial⟩ (Sub.refl _)
                  · refine AO.weak (ρ' := [(63, (eBool (decide (t25 = t26))))]) (H' := [(n4, .mem (.ar 1 (p0.toList.map eU64))), (n5, .mem (.ar 1 (p1.toList.map eU64)))]) ⟨rfl, trivial⟩ (Sub.refl _) ?_
                    refine AO.calm rfl 64 rfl (by decide) (eBool (decide (t25 = t26))) (Calm.move rfl rfl) ?_
                    exact AO.nilE (ρ' := [(64, (eBool (decide (t25 = t26))))]) (H' := [(n4, .mem (.ar 1 (p0.toList.map eU64))), (n5, .mem (.ar 1 (p1.toList.map eU64)))]) ⟨⟨_, rfl, rfl⟩, Sub.refl _⟩ ⟨rfl, trivial⟩ (Sub.refl _)
                  · refine AO.weak (ρ' := [(3, (.ptr n4 0)), (64, (eBool (decide (t25 = t26))))]) (H' := [(n4, .mem (.ar 1 (p0.toList.map eU64))), (n5, .mem (.ar 1 (p1.toList.map eU64)))]) ⟨rfl, rfl, trivial⟩ (Sub.refl _) ?_
                    refine AO.calmG 7 true 64 rfl rfl (congrArg (fun b => some (AV.fl (Value.bool b))) (decide_eq_true hc27)) 65 rfl (by decide) (.ar 1 (p0.toList.map eU64)) (Calm.load 0 rfl rfl rfl (At.cast At.here rfl) ag27 (by rw [sz27]; simp [AV.size])) ?_
                    exact AO.nilE (ρ' := [(65, (.ar 1 (p0.toList.map eU64)))]) (H' := [(n4, .mem (.ar 1 (p0.toList.map eU64))), (n5, .mem (.ar 1 (p1.toList.map eU64)))]) ⟨⟨_, rfl, rfl⟩, Sub.refl _⟩ ⟨rfl, trivial⟩ (Sub.refl _)
                  · refine AO.weak (ρ' := [(4, (.ptr n5 0)), (64, (eBool (decide (t25 = t26))))]) (H' := [(n4, .mem (.ar 1 (p0.toList.map eU64))), (n5, .mem (.ar 1 (p1.toList.map eU64)))]) ⟨rfl, rfl, trivial⟩ (Sub.refl _) ?_
                    refine AO.calmG 7 true 64 rfl rfl (congrArg (fun b => some (AV.fl (Value.bool b))) (decide_eq_true hc27)) 66 rfl (by decide) (.ar 1 (p1.toList.map eU64)) (Calm.load 1 rfl rfl rfl (At.cast At.here rfl) ag27 (by rw [sz27]; simp [AV.size])) ?_
                    exact AO.nilE (ρ' := [(66, (.ar 1 (p1.toList.map eU64)))]) (H' := [(n4, .mem (.ar 1 (p0.toList.map eU64))), (n5, .mem (.ar 1 (p1.toList.map eU64)))]) ⟨⟨_, rfl, rfl⟩, Sub.refl _⟩ ⟨rfl, trivial⟩ (Sub.refl _)
                  · refine AO.weak (ρ' := [(64, (eBool (decide (t25 = t26)))), (65, (.ar 1 (p0.toList.map eU64))), (66, (.ar 1 (p1.toList.map eU64)))]) (H' := [(n4, .mem (.ar 1 (p0.toList.map eU64))), (n5, .mem (.ar 1 (p1.toList.map eU64)))]) ⟨rfl, rfl, rfl, trivial⟩ (Sub.refl _) ?_
                    refine AO.callG 7 true 64 [(.ar 1 (p0.toList.map eU64)), (.ar 1 (p1.toList.map eU64))] (.ar 1 (t28.toList.map eU64)) 67 rfl (by decide) ok24 rfl rfl (congrArg (fun b => some (AV.fl (Value.bool b))) (decide_eq_true hc27)) rfl rfl ⟨rfl, rfl, rfl, rfl, trivial⟩ (byteset_And_spec et28) ?_
                    exact AO.nilE (ρ' := [(67, (.ar 1 (t28.toList.map eU64)))]) (H' := [(n4, .mem (.ar 1 (p0.toList.map eU64))), (n5, .mem (.ar 1 (p1.toList.map eU64)))]) ⟨⟨_, rfl, rfl⟩, Sub.refl _⟩ ⟨rfl, trivial⟩ (Sub.refl _)
                  · refine AO.weak (ρ' := [(3, (.ptr n4 0)), (64, (eBool (decide (t25 = t26))))]) (H' := [(n4, .mem (.ar 1 (p0.toList.map eU64))), (n5, .mem (.ar 1 (p1.toList.map eU64)))]) ⟨rfl, rfl, trivial⟩ (Sub.refl _) ?_
                    refine AO.calmG 7 true 64 rfl rfl (congrArg (fun b => some (AV.fl (Value.bool b))) (decide_eq_true hc27)) 68 rfl (by decide) (.ar 1 (p0.toList.map eU64)) (Calm.load 0 rfl rfl rfl (At.cast At.here rfl) ag27 (by rw [sz27]; simp [AV.size])) ?_
                    exact AO.nilE (ρ' := [(68, (.ar 1 (p0.toList.map eU64)))]) (H' := [(n4, .mem (.ar 1 (p0.toList.map eU64))), (n5, .mem (.ar 1 (p1.toList.map eU64)))]) ⟨⟨_, rfl, rfl⟩, Sub.refl _⟩ ⟨rfl, trivial⟩ (Sub.refl _)
                  · refine AO.weak (ρ' := [(4, (.ptr n5 0)), (64, (eBool (decide (t25 = t26))))]) (H' := [(n4, .mem (.ar 1 (p0.toList.map eU64))), (n5, .mem (.ar 1 (p1.toList.map eU64)))]) ⟨rfl, rfl, trivial⟩ (Sub.refl _) ?_
                    refine AO.calmG 7 true 64 rfl rfl (congrArg (fun b => some (AV.fl (Value.bool b))) (decide_eq_true hc27)) 69 rfl (by decide) (.ar 1 (p1.toList.map eU64)) (Calm.load 1 rfl rfl rfl (At.cast At.here rfl) ag27 (by rw [sz27]; simp [AV.size])) ?_
                    exact AO.nilE (ρ' := [(69, (.ar 1 (p1.toList.map eU64)))]) (H' := [(n4, .mem (.ar 1 (p0.toList.map eU64))), (n5, .mem (.ar 1 (p1.toList.map eU64)))]) ⟨⟨_, rfl, rfl⟩, Sub.refl _⟩ ⟨rfl, trivial⟩ (Sub.refl _)
                  · refine AO.weak (ρ' := [(64, (eBool (decide (t25 = t26)))), (68, (.ar 1 (p0.toList.map eU64))), (69, (.ar 1 (p1.toList.map eU64)))]) (H' := [(n4, .mem (.ar 1 (p0.toList.map eU64))), (n5, .mem (.ar 1 (p1.toList.map eU64)))]) ⟨rfl, rfl, rfl, trivial⟩ (Sub.refl _) ?_
                    refine AO.callG 7 true 64 [(eI64 (1 : Int)), (.ar 1 (p0.toList.map eU64)), (.ar 1 (p1.toList.map eU64))] (.ar 1 (t29.toList.map eU64)) 70 rfl (by decide) ok23 rfl rfl (congrArg (fun b => some (AV.fl (Value.bool b))) (decide_eq_true hc27)) rfl rfl ⟨rfl, rfl, rfl, rfl, rfl, rfl, trivial⟩ (bosketref02_Put_spec et29) ?_
                    exact AO.nilE (ρ' := [(70, (.ar 1 (t29.toList.map eU64)))]) (H' := [(n4, .mem (.ar 1 (p0.toList.map eU64))), (n5, .mem (.ar 1 (p1.toList.map eU64)))]) ⟨⟨_, rfl, rfl⟩, Sub.refl _⟩ ⟨rfl, trivial⟩ (Sub.refl _)
                  · refine AO.weak (ρ' := [(64, (eBool (decide (t25 = t26)))), (67, (.ar 1 (t28.toList.map eU64))), (70, (.ar 1 (t29.toList.map eU64)))]) (H' := [(n4, .mem (.ar 1 (p0.toList.map eU64))), (n5, .mem (.ar 1 (p1.toList.map eU64)))]) ⟨rfl, rfl, rfl, trivial⟩ (Sub.refl _) ?_
                    refine AO.calmG 7 true 64 rfl rfl (congrArg (fun b => some (AV.fl (Value.bool b))) (decide_eq_true hc27)) 71 rfl (by decide) (eBool (decide (t28 = t29))) (Calm.eqA rfl rfl rfl eg27 (eqa27 t28 t29) (by decide)) ?_
                    exact AO.nilE (ρ' := [(71, (eBool (decide (t28 = t29))))]) (H' := [(n4, .mem (.ar 1 (p0.toList.map eU64))), (n5, .mem (.ar 1 (p1.toList.map eU64)))]) ⟨⟨_, rfl, rfl⟩, Sub.refl _⟩ ⟨rfl, trivial⟩ (Sub.refl _)
                  · refine AO.weak (ρ' := [(64, (eBool (decide (t25 = t26)))), (71, (eBool (decide (t28 = t29))))]) (H' := [(n4, .mem (.ar 1 (p0.toList.map eU64))), (n5, .mem (.ar 1 (p1.toList.map eU64)))]) ⟨rfl, rfl, trivial⟩ (Sub.refl _) ?_
                    refine AO.calm rfl 72 rfl (by decide) (eBool (decide (t28 = t29))) (Calm.pickT rfl (congrArg (fun b => some (AV.fl (Value.bool b))) (decide_eq_true hc27)) rfl) ?_
                    exact AO.nilE (ρ' := [(72, (eBool (decide (t28 = t29))))]) (H' := [(n4, .mem (.ar 1 (p0.toList.map eU64))), (n5, .mem (.ar 1 (p1.toList.map eU64)))]) ⟨⟨_, rfl, rfl⟩, Sub.refl _⟩ ⟨rfl, trivial⟩ (Sub.refl _)
                  · refine AO.weak (ρ' := [(72, (eBool (decide (t28 = t29))))]) (H' := [(n4, .mem (.ar 1 (p0.toList.map eU64))), (n5, .mem (.ar 1 (p1.toList.map eU64)))]) ⟨rfl, trivial⟩ (Sub.refl _) ?_
                    refine AO.calm rfl 73 rfl (by decide) (eBool (decide (t28 = t29))) (Calm.move rfl rfl) ?_
                    exact AO.nilE (ρ' := [(73, (eBool (decide (t28 = t29))))]) (H' := [(n4, .mem (.ar 1 (p0.toList.map eU64))), (n5, .mem (.ar 1 (p1.toList.map eU64)))]) ⟨⟨_, rfl, rfl⟩, Sub.refl _⟩ ⟨rfl, trivial⟩ (Sub.refl _)
                  · refine AO.weak (ρ' := [(73, (eBool (decide (t28 = t29))))]) (H' := [(n4, .mem (.ar 1 (p0.toList.map eU64))), (n5, .mem (.ar 1 (p1.toList.map eU64)))]) ⟨rfl, trivial⟩ (Sub.refl _) ?_
                    refine AO.skipG 16 false 73 rfl rfl (congrArg (fun b => some (AV.fl (Value.bool b))) (decide_eq_false hc30)) 74 rfl (by decide) ?_
                    exact AO.nilE (ρ' := [(74, (.fl undef))]) (H' := [(n4, .mem (.ar 1 (p0.toList.map eU64))), (n5, .mem (.ar 1 (p1.toList.map eU64)))]) ⟨⟨_, rfl, rfl⟩, Sub.refl _⟩ ⟨rfl, trivial⟩ (Sub.refl _)
                  · refine AO.weak (ρ' := [(73, (eBool (decide (t28 = t29))))]) (H' := [(n4, .mem (.ar 1 (p0.toList.map eU64))), (n5, .mem (.ar 1 (p1.toList.map eU64)))]) ⟨rfl, trivial⟩ (Sub.refl _) ?_
                    refine AO.skipG 16 false 73 rfl rfl (congrArg (fun b => some (AV.fl (Value.bool b))) (decide_eq_false hc30)) 75 rfl (by decide) ?_
                    exact AO.nilE (ρ' := [(75, (.fl undef))]) (H' := [(n4, .mem (.ar 1 (p0.toList.map eU64))), (n5, .mem (.ar 1 (p1.toList.map eU64)))]) ⟨⟨_, rfl, rfl⟩, Sub.refl _⟩ ⟨rfl, trivial⟩ (Sub.refl _)
                  · refine AO.weak (ρ' := [(73, (eBool (decide (t28 = t29))))]) (H' := [(n4, .mem (.ar 1 (p0.toList.map eU64))), (n5, .mem (.ar 1 (p1.toList.map eU64)))]) ⟨rfl, trivial⟩ (Sub.refl _) ?_
                    refine AO.skipG 16 false 73 rfl rfl (congrArg (fun b => some (AV.fl (Value.bool b))) (decide_eq_false hc30)) 76 rfl (by decide) ?_
                    exact AO.nilE (ρ' := [(76, (.fl undef))]) (H' := [(n4, .mem (.ar 1 (p0.toList.map eU64))), (n5, .mem (.ar 1 (p1.toList.map eU64)))]) ⟨⟨_, rfl, rfl⟩, Sub.refl _⟩ ⟨rfl, trivial⟩ (Sub.refl _)
                  · refine AO.weak (ρ' := [(73, (eBool (decide (t28 = t29))))]) (H' := [(n4, .mem (.ar 1 (p0.toList.map eU64))), (n5, .mem (.ar 1 (p1.toList.map eU64)))]) ⟨rfl, trivial⟩ (Sub.refl _) ?_
                    refine AO.skipG 16 false 73 rfl rfl (congrArg (fun b => some (AV.fl (Value.bool b))) (decide_eq_false hc30)) 77 rfl (by decide) ?_
                    exact AO.nilE (ρ' := [(77, (.fl undef))]) (H' := [(n4, .mem (.ar 1 (p0.toList.map eU64))), (n5, .mem (.ar 1 (p1.toList.map eU64)))]) ⟨⟨_, rfl, rfl⟩, Sub.refl _⟩ ⟨rfl, trivial⟩ (Sub.refl _)
                  · refine AO.weak (ρ' := [(73, (eBool (decide (t28 = t29))))]) (H' := [(n4, .mem (.ar 1 (p0.toList.map eU64))), (n5, .mem (.ar 1 (p1.toList.map eU64)))]) ⟨rfl, trivial⟩ (Sub.refl _) ?_
                    refine AO.skipG 16 false 73 rfl rfl (congrArg (fun b => some (AV.fl (Value.bool b))) (decide_eq_false hc30)) 78 rfl (by decide) ?_
                    exact AO.nilE (ρ' := [(78, (.fl undef))]) (H' := [(n4, .mem (.ar 1 (p0.toList.map eU64))), (n5, .mem (.ar 1 (p1.toList.map eU64)))]) ⟨⟨_, rfl, rfl⟩, Sub.refl _⟩ ⟨rfl, trivial⟩ (Sub.refl _)
                  · refine AO.weak (ρ' := [(73, (eBool (decide (t28 = t29))))]) (H' := [(n4, .mem (.ar 1 (p0.toList.map eU64))), (n5, .mem (.ar 1 (p1.toList.map eU64)))]) ⟨rfl, trivial⟩ (Sub.refl _) ?_
                    refine AO.skipG 16 false 73 rfl rfl (congrArg (fun b => some (AV.fl (Value.bool b))) (decide_eq_false hc30)) 79 rfl (by decide) ?_
                    exact AO.nilE (ρ' := [(79, (.fl undef))]) (H' := [(n4, .mem (.ar 1 (p0.toList.map eU64))), (n5, .mem (.ar 1 (p1.toList.map eU64)))]) ⟨⟨_, rfl, rfl⟩, Sub.refl _⟩ ⟨rfl, trivial⟩ (Sub.refl _)
                  · refine AO.weak (ρ' := [(73, (eBool (decide (t28 = t29))))]) (H' := [(n4, .mem (.ar 1 (p0.toList.map eU64))), (n5, .mem (.ar 1 (p1.toList.map eU64)))]) ⟨rfl, trivial⟩ (Sub.refl _) ?_
                    refine AO.skipG 16 false 73 rfl rfl (congrArg (fun b => some (AV.fl (Value.bool b))) (decide_eq_false hc30)) 80 rfl (by decide) ?_
                    exact AO.nilE (ρ' := [(80, (.fl undef))]) (H' := [(n4, .mem (.ar 1 (p0.toList.map eU64))), (n5, .mem (.ar 1 (p1.toList.map eU64)))]) ⟨⟨_, rfl, rfl⟩, Sub.refl _⟩ ⟨rfl, trivial⟩ (Sub.refl _)
                  · refine AO.weak (ρ' := [(73, (eBool (decide (t28 = t29)))), (80, (.fl undef))]) (H' := [(n4, .mem (.ar 1 (p0.toList.map eU64))), (n5, .mem (.ar 1 (p1.toList.map eU64)))]) ⟨rfl, rfl, trivial⟩ (Sub.refl _) ?_
                    refine AO.calm rfl 81 rfl (by decide) (eBool false) (Calm.pickF rfl (congrArg (fun b => some (AV.fl (Value.bool b))) (decide_eq_false hc30)) rfl) ?_
                    exact AO.nilE (ρ' := [(81, (eBool false))]) (H' := [(n4, .mem (.ar 1 (p0.toList.map eU64))), (n5, .mem (.ar 1 (p1.toList.map eU64)))]) ⟨⟨_, rfl, rfl⟩, Sub.refl _⟩ ⟨rfl, trivial⟩ (Sub.refl _)
                  · refine AO.weak (ρ' := [(81, (eBool false))]) (H' := [(n4, .mem (.ar 1 (p0.toList.map eU64))), (n5, .mem (.ar 1 (p1.toList.map eU64)))]) ⟨rfl, trivial⟩ (Sub.refl _) ?_
                    refine AO.calm rfl 82 rfl (by decide) (eBool false) (Calm.move rfl rfl) ?_
                    exact AO.nilE (ρ' := [(82, (eBool false))]) (H' := [(n4, .mem (.ar 1 (p0.toList.map eU64))), (n5, .mem (.ar 1 (p1.toList.map eU64)))]) ⟨⟨_, rfl, rfl⟩, Sub.refl _⟩ ⟨rfl, trivial⟩ (Sub.refl _)
                  · refine AO.weak (ρ' := [(82, (eBool false))]) (H' := [(n4, .mem (.ar 1 (p0.toList.map eU64))), (n5, .mem (.ar 1 (p1.toList.map eU64)))]) ⟨rfl, trivial⟩ (Sub.refl _) ?_
                    refine AO.skipG 25 false 82 rfl rfl rfl 83 rfl (by decide) ?_
                    exact AO.nilE (ρ' := [(83, (.fl undef))]) (H' := [(n4, .mem (.ar 1 (p0.toList.map eU64))), (n5, .mem (.ar 1 (p1.toList.map eU64)))]) ⟨⟨_, rfl, rfl⟩, Sub.refl _⟩ ⟨rfl, trivial⟩ (Sub.refl _)
                  · refine AO.weak (ρ' := [(82, (eBool false))]) (H' := [(n4, .mem (.ar 1 (p0.toList.map eU64))), (n5, .mem (.ar 1 (p1.toList.map eU64)))]) ⟨rfl, trivial⟩ (Sub.refl _) ?_
                    refine AO.skipG 25 false 82 rfl rfl rfl 84 rfl (by decide) ?_
                    exact AO.nilE (ρ' := [(84, (.fl undef))]) (H' := [(n4, .mem (.ar 1 (p0.toList.map eU64))), (n5, .mem (.ar 1 (p1.toList.map eU64)))]) ⟨⟨_, rfl, rfl⟩, Sub.refl _⟩ ⟨rfl, trivial⟩ (Sub.refl _)
                  · refine AO.weak (ρ' := [(82, (eBool false))]) (H' := [(n4, .mem (.ar 1 (p0.toList.map eU64))), (n5, .mem (.ar 1 (p1.toList.map eU64)))]) ⟨rfl, trivial⟩ (Sub.refl _) ?_
                    refine AO.skipG 25 false 82 rfl rfl rfl 85 rfl (by decide) ?_
                    exact AO.nilE (ρ' := [(85, (.fl undef))]) (H' := [(n4, .mem (.ar 1 (p0.toList.map eU64))), (n5, .mem (.ar 1 (p1.toList.map eU64)))]) ⟨⟨_, rfl, rfl⟩, Sub.refl _⟩ ⟨rfl, trivial⟩ (Sub.refl _)
                  · refine AO.weak (ρ' := [(82, (eBool false))]) (H' := [(n4, .mem (.ar 1 (p0.toList.map eU64))), (n5, .mem (.ar 1 (p1.toList.map eU64)))]) ⟨rfl, trivial⟩ (Sub.refl _) ?_
                    refine AO.skipG 25 false 82 rfl rfl rfl 86 rfl (by decide) ?_
                    exact AO.nilE (ρ' := [(86, (.fl undef))]) (H' := [(n4, .mem (.ar 1 (p0.toList.map eU64))), (n5, .mem (.ar 1 (p1.toList.map eU64)))]) ⟨⟨_, rfl, rfl⟩, Sub.refl _⟩ ⟨rfl, trivial⟩ (Sub.refl _)
                  · refine AO.weak (ρ' := [(82, (eBool false))]) (H' := [(n4, .mem (.ar 1 (p0.toList.map eU64))), (n5, .mem (.ar 1 (p1.toList.map eU64)))]) ⟨rfl, trivial⟩ (Sub.refl _) ?_
                    refine AO.skipG 25 false 82 rfl rfl rfl 87 rfl (by decide) ?_
                    exact AO.nilE (ρ' := [(87, (.fl undef))]) (H' := [(n4, .mem (.ar 1 (p0.toList.map eU64))), (n5, .mem (.ar 1 (p1.toList.map eU64)))]) ⟨⟨_, rfl, rfl⟩, Sub.refl _⟩ ⟨rfl, trivial⟩ (Sub.refl _)
                  · refine AO.weak (ρ' := [(82, (eBool false))]) (H' := [(n4, .mem (.ar 1 (p0.toList.map eU64))), (n5, .mem (.ar 1 (p1.toList.map eU64)))]) ⟨rfl, trivial⟩ (Sub.refl _) ?_
                    refine AO.skipG 25 false 82 rfl rfl rfl 88 rfl (by decide) ?_
                    exact AO.nilE (ρ' := [(88, (.fl undef))]) (H' := [(n4, .mem (.ar 1 (p0.toList.map eU64))), (n5, .mem (.ar 1 (p1.toList.map eU64)))]) ⟨⟨_, rfl, rfl⟩, Sub.refl _⟩ ⟨rfl, trivial⟩ (Sub.refl _)
                  · refine AO.weak (ρ' := [(82, (eBool false)), (88, (.fl undef))]) (H' := [(n4, .mem (.ar 1 (p0.toList.map eU64))), (n5, .mem (.ar 1 (p1.toList.map eU64)))]) ⟨rfl, rfl, trivial⟩ (Sub.refl _) ?_
                    refine AO.calm rfl 89 rfl (by decide) (eBool false) (Calm.pickF rfl rfl rfl) ?_
                    exact AO.nilE (ρ' := [(89, (eBool false))]) (H' := [(n4, .mem (.ar 1 (p0.toList.map eU64))), (n5, .mem (.ar 1 (p1.toList.map eU64)))]) ⟨⟨_, rfl, rfl⟩, Sub.refl _⟩ ⟨rfl, trivial⟩ (Sub.refl _)
                  · refine AO.weak (ρ' := [(89, (eBool false))]) (H' := [(n4, .mem (.ar 1 (p0.toList.map eU64))), (n5, .mem (.ar 1 (p1.toList.map eU64)))]) ⟨rfl, trivial⟩ (Sub.refl _) ?_
                    refine AO.calm rfl 90 rfl (by decide) (eBool false) (Calm.move rfl rfl) ?_
                    exact AO.nilE (ρ' := [(90, (eBool false))]) (H' := [(n4, .mem (.ar 1 (p0.toList.map eU64))), (n5, .mem (.ar 1 (p1.toList.map eU64)))]) ⟨⟨_, rfl, rfl⟩, Sub.refl _⟩ ⟨rfl, trivial⟩ (Sub.refl _)
                  · refine AO.weak (ρ' := [(90, (eBool false))]) (H' := [(n4, .mem (.ar 1 (p0.toList.map eU64))), (n5, .mem (.ar 1 (p1.toList.map eU64)))]) ⟨rfl, trivial⟩ (Sub.refl _) ?_
                    refine AO.skipG 33 false 90 rfl rfl rfl 91 rfl (by decide) ?_
                    exact AO.nilE (ρ' := [(91, (.fl undef))]) (H' := [(n4, .mem (.ar 1 (p0.toList.map eU64))), (n5, .mem (.ar 1 (p1.toList.map eU64)))]) ⟨⟨_, rfl, rfl⟩, Sub.refl _⟩ ⟨rfl, trivial⟩ (Sub.refl _)
                  · refine AO.weak (ρ' := [(90, (eBool false))]) (H' := [(n4, .mem (.ar 1 (p0.toList.map eU64))), (n5, .mem (.ar 1 (p1.toList.map eU64)))]) ⟨rfl, trivial⟩ (Sub.refl _) ?_
                    refine AO.skipG 33 false 90 rfl rfl rfl 92 rfl (by decide) ?_
                    exact AO.nilE (ρ' := [(92, (.fl undef))]) (H' := [(n4, .mem (.ar 1 (p0.toList.map eU64))), (n5, .mem (.ar 1 (p1.toList.map eU64)))]) ⟨⟨_, rfl, rfl⟩, Sub.refl _⟩ ⟨rfl, trivial⟩ (Sub.refl _)
                  · refine AO.weak (ρ' := [(90, (eBool false))]) (H' := [(n4, .mem (.ar 1 (p0.toList.map eU64))), (n5, .mem (.ar 1 (p1.toList.map eU64)))]) ⟨rfl, trivial⟩ (Sub.refl _) ?_
                    refine AO.skipG 33 false 90 rfl rfl rfl 93 rfl (by decide) ?_
                    exact AO.nilE (ρ' := [(93, (.fl undef))]) (H' := [(n4, .mem (.ar 1 (p0.toList.map eU64))), (n5, .mem (.ar 1 (p1.toList.map eU64)))]) ⟨⟨_, rfl, rfl⟩, Sub.refl _⟩ ⟨rfl, trivial⟩ (Sub.refl _)
                  · refine AO.weak (ρ' := [(90, (eBool false))]) (H' := [(n4, .mem (.ar 1 (p0.toList.map eU64))), (n5, .mem (.ar 1 (p1.toList.map eU64)))]) ⟨rfl, trivial⟩ (Sub.refl _) ?_
                    refine AO.skipG 33 false 90 rfl rfl rfl 94 rfl (by decide) ?_
                    exact AO.nilE (ρ' := [(94, (.fl undef))]) (H' := [(n4, .mem (.ar 1 (p0.toList.map eU64))), (n5, .mem (.ar 1 (p1.toList.map eU64)))]) ⟨⟨_, rfl, rfl⟩, Sub.refl _⟩ ⟨rfl, trivial⟩ (Sub.refl _)
                  · refine AO.weak (ρ' := [(90, (eBool false))]) (H' := [(n4, .mem (.ar 1 (p0.toList.map eU64))), (n5, .mem (.ar 1 (p1.toList.map eU64)))]) ⟨rfl, trivial⟩ (Sub.refl _) ?_
                    refine AO.skipG 33 false 90 rfl rfl rfl 95 rfl (by decide) ?_
                    exact AO.nilE (ρ' := [(95, (.fl undef))]) (H' := [(n4, .mem (.ar 1 (p0.toList.map eU64))), (n5, .mem (.ar 1 (p1.toList.map eU64)))]) ⟨⟨_, rfl, rfl⟩, Sub.refl _⟩ ⟨rfl, trivial⟩ (Sub.refl _)
                  · refine AO.weak (ρ' := [(90, (eBool false)), (95, (.fl undef))]) (H' := [(n4, .mem (.ar 1 (p0.toList.map eU64))), (n5, .mem (.ar 1 (p1.toList.map eU64)))]) ⟨rfl, rfl, trivial⟩ (Sub.refl _) ?_
                    refine AO.calm rfl 96 rfl (by decide) (eBool false) (Calm.pickF rfl rfl rfl) ?_
                    exact AO.nilE (ρ' := [(96, (eBool false))]) (H' := [(n4, .mem (.ar 1 (p0.toList.map eU64))), (n5, .mem (.ar 1 (p1.toList.map eU64)))]) ⟨⟨_, rfl, rfl⟩, Sub.refl _⟩ ⟨rfl, trivial⟩ (Sub.refl _)
                  · refine AO.weak (ρ' := [(96, (eBool false))]) (H' := [(n4, .mem (.ar 1 (p0.toList.map eU64))), (n5, .mem (.ar 1 (p1.toList.map eU64)))]) ⟨rfl, trivial⟩ (Sub.refl _) ?_
                    refine AO.calm rfl 6 rfl (by decide) (eBool false) (Calm.assign rfl rfl) ?_
                    exact AO.nilE (ρ' := [(6, (eBool false))]) (H' := [(n4, .mem (.ar 1 (p0.toList.map eU64))), (n5, .mem (.ar 1 (p1.toList.map eU64)))]) ⟨⟨_, rfl, rfl⟩, Sub.refl _⟩ ⟨rfl, trivial⟩ (Sub.refl _)
                · cases hq24
                  exact ⟨rfl, rfl, rfl⟩
            · have hq24 := (if_neg hc27).symm.trans hq24
              refine AW.regAny (by rfl) (by decide +kernel) [(.ar 1 (p0.toList.map eU64)), (.ar 1 (p1.toList.map eU64)), (.ar 1 (t25.toList.map eU64)), (.ar 1 (p0.toList.map eU64)), (.ar 1 (p1.toList.map eU64)), (.ar 1 (t26.toList.map eU64)), (eBool (decide (t25 = t26))), (eBool (decide (t25 = t26))), (.fl undef), (.fl undef), (.fl undef), (.fl undef), (.fl undef), (.fl undef), (.fl undef), (eBool false), (eBool false), (.fl undef), (.fl undef), (.fl undef), (.fl undef), (.fl undef), (.fl undef), (.fl undef), (eBool false), (eBool false), (.fl undef), (.fl undef), (.fl undef), (.fl undef), (.fl undef), (.fl undef), (eBool false), (eBool false), (.fl undef), (.fl undef), (.fl undef), (.fl undef), (.fl undef), (eBool false), (eBool false)] [(3, (.ptr n4 0)), (4, (.ptr n5 0))] ⟨rfl, rfl, trivial⟩ rfl ?_ [(6, (eBool false))] [] ⟨rfl, trivial⟩ (Sub.nil _) ?_
              · refine ⟨?_, ?_, ?_, ?_, ?_, ?_, ?_, ?_, ?_, ?_, ?_, ?_, ?_, ?_, ?_, ?_, ?_, ?_, ?_, ?_, ?_, ?_, ?_, ?_, ?_, ?_, ?_, ?_, ?_, ?_, ?_, ?_, ?_, ?_, ?_, ?_, ?_, ?_, ?_, ?_, ?_, trivial⟩
                · refine AO.weak (ρ' := [(3, (.ptr n4 0))]) (H' := [(n4, .mem (.ar 1 (p0.toList.map eU64))), (n5, .mem (.ar 1 (p1.toList.map eU64)))]) ⟨rfl, trivial⟩ (Sub.refl _) ?_
                  refine AO.calm rfl 57 rfl (by decide) (.ar 1 (p0.toList.map eU64)) (Calm.load 0 rfl rfl rfl (At.cast At.here rfl) ag27 (by rw [sz27]; simp [AV.size])) ?_
                  exact AO.nilE (ρ' := [(57, (.ar 1 (p0.toList.map eU64)))]) (H' := [(n4, .mem (.ar 1 (p0.toList.map eU64))), (n5, .mem (.ar 1 (p1.toList.map eU64)))]) ⟨⟨_, rfl, rfl⟩, Sub.refl _⟩ ⟨rfl, trivial⟩ (Sub.refl _)
                · refine AO.weak (ρ' := [(4, (.ptr n5 0))]) (H' := [(n4, .mem (.ar 1 (p0.toList.map eU64))), (n5, .mem (.ar 1 (p1.toList.map eU64)))]) ⟨rfl, trivial⟩ (Sub.refl _) ?_
                  refine AO.calm rfl 58 rfl (by decide) (.ar 1 (p1.toList.map eU64)) (Calm.load 1 rfl rfl rfl (At.cast At.here rfl) ag27 (by rw [sz27]; simp [AV.size])) ?_
                  exact AO.nilE (ρ' := [(58, (.ar 1 (p1.toList.map eU64)))]) (H' := [(n4, .mem (.ar 1 (p0.toList.map eU64))), (n5, .mem (.ar 1 (p1.toList.map eU64)))]) ⟨⟨_, rfl, rfl⟩, Sub.refl _⟩ ⟨rfl, trivial⟩ (Sub.refl _)
                · refine AO.weak (ρ' := [(57, (.ar 1 (p0.toList.map eU64))), (58, (.ar 1 (p1.toList.map eU64)))]) (H' := [(n4, .mem (.ar 1 (p0.toList.map eU64))), (n5, .mem (.ar 1 (p1.toList.map eU64)))]) ⟨rfl, rfl, trivial⟩ (Sub.refl _) ?_
                  refine AO.callS [(.ar 1 (p0.toList.map eU64)), (.ar 1 (p1.toList.map eU64))] (.ar 1 (t25.toList.map eU64)) 59 rfl (by decide) ok12 rfl rfl rfl ⟨rfl, rfl, rfl, rfl, trivial⟩ (byteset_Or_spec et25) ?_
                  exact AO.nilE (ρ' := [(59, (.ar 1 (t25.toList.map eU64)))]) (H' := [(n4, .mem (.ar 1 (p0.toList.map eU64))), (n5, .mem (.ar 1 (p1.toList.map eU64)))]) ⟨⟨_, rfl, rfl⟩, Sub.refl _⟩ ⟨rfl, trivial⟩ (Sub.refl _)
                · refine AO.weak (ρ' := [(3, (.ptr n4 0))]) (H' := [(n4, .mem (.ar 1 (p0.toList.map eU64))), (n5, .mem (.ar 1 (p1.toList.map eU64)))]) ⟨rfl, trivial⟩ (Sub.refl _) ?_
                  refine AO.calm rfl 60 rfl (by decide) (.ar 1 (p0.toList.map eU64)) (Calm.load 0 rfl rfl rfl (At.cast At.here rfl) ag27 (by rw [sz27]; simp [AV.size])) ?_
                  exact AO.nilE (ρ' := [(60, (.ar 1 (p0.toList.map eU64)))]) (H' := [(n4, .mem (.ar 1 (p0.toList.map eU64))), (n5, .mem (.ar 1 (p1.toList.map eU64)))]) ⟨⟨_, rfl, rfl⟩, Sub.refl _⟩ ⟨rfl, trivial⟩ (Sub.refl _)
                · refine AO.weak (ρ' := [(4, (.ptr n5 0))]) (H' := [(n4, .mem (.ar 1 (p0.toList.map eU64))), (n5, .mem (.ar 1 (p1.toList.map eU64)))]) ⟨rfl, trivial⟩ (Sub.refl _) ?_
                  refine AO.calm rfl 61 rfl (by decide) (.ar 1 (p1.toList.map eU64)) (Calm.load 1 rfl rfl rfl (At.cast At.here rfl) ag27 (by rw [sz27]; simp [AV.size])) ?_
                  exact AO.nilE (ρ' := [(61, (.ar 1 (p1.toList.map eU64)))]) (H' := [(n4, .mem (.ar 1 (p0.toList.map eU64))), (n5, .mem (.ar 1 (p1.toList.map eU64)))]) ⟨⟨_, rfl, rfl⟩, Sub.refl _⟩ ⟨rfl, trivial⟩ (Sub.refl _)
                · refine AO.weak (ρ' := [(60, (.ar 1 (p0.toList.map eU64))), (61, (.ar 1 (p1.toList.map eU64)))]) (H' := [(n4, .mem (.ar 1 (p0.toList.map eU64))), (n5, .mem (.ar 1 (p1.toList.map eU64)))]) ⟨rfl, rfl, trivial⟩ (Sub.refl _) ?_
                  refine AO.callS [(eI64 (0 : Int)), (.ar 1 (p0.toList.map eU64)), (.ar 1 (p1.toList.map eU64))] (.ar 1 (t26.toList.map eU64)) 62 rfl (by decide) ok23 rfl rfl rfl ⟨rfl, rfl, rfl, rfl, rfl, rfl, trivial⟩ (bosketref02_Put_spec et26) ?_
                  exact AO.nilE (ρ' := [(62, (.ar 1 (t26.toList.map eU64)))]) (H' := [(n4, .mem (.ar 1 (p0.toList.map eU64))), (n5, .mem (.ar 1 (p1.toList.map eU64)))]) ⟨⟨_, rfl, rfl⟩, Sub.refl _⟩ ⟨rfl, trivial⟩ (Sub.refl _)
                · refine AO.weak (ρ' := [(59, (.ar 1 (t25.toList.map eU64))), (62, (.ar 1 (t26.toList.map eU64)))]) (H' := [(n4, .mem (.ar 1 (p0.toList.map eU64))), (n5, .mem (.ar 1 (p1.toList.map eU64)))]) ⟨rfl, rfl, trivial⟩ (Sub.refl _) ?_
                  refine AO.calm rfl 63 rfl (by decide) (eBool (decide (t25 = t26))) (Calm.eqA rfl rfl rfl eg27 (eqa27 t25 t26) (by decide)) ?_
                  exact AO.nilE (ρ' := [(63, (eBool (decide (t25 = t26))))]) (H' := [(n4, .mem (.ar 1 (p0.toList.map eU64))), (n5, .mem (.ar 1 (p1.toList.map eU64)))]) ⟨⟨_, rfl, rfl⟩, Sub.refl _⟩ ⟨rfl, trivial⟩ (Sub.refl _)
                · refine AO.weak (ρ' := [(63, (eBool (decide (t25 = t26))))]) (H' := [(n4, .mem (.ar 1 (p0.toList.map eU64))), (n5, .mem (.ar 1 (p1.toList.map eU64)))]) ⟨rfl, trivial⟩ (Sub.refl _) ?_
                  refine AO.calm rfl 64 rfl (by decide) (eBool (decide (t25 = t26))) (Calm.move rfl rfl) ?_
                  exact AO.nilE (ρ' := [(64, (eBool (decide (t25 = t26))))]) (H' := [(n4, .mem (.ar 1 (p0.toList.map eU64))), (n5, .mem (.ar 1 (p1.toList.map eU64)))]) ⟨⟨_, rfl, rfl⟩, Sub.refl _⟩ ⟨rfl, trivial⟩ (Sub.refl _)
                · refine AO.weak (ρ' := [(64, (eBool (decide (t25 = t26))))]) (H' := [(n4, .mem (.ar 1 (p0.toList.map eU64))), (n5, .mem (.ar 1 (p1.toList.map eU64)))]) ⟨rfl, trivial⟩ (Sub.refl _) ?_
                  refine AO.skipG 7 false 64 rfl rfl (congrArg (fun b => some (AV.fl (Value.bool b))) (decide_eq_false hc27)) 65 rfl (by decide) ?_
                  exact AO.nilE (ρ' := [(65, (.fl undef))]) (H' := [(n4, .mem (.ar 1 (p0.toList.map eU64))), (n5, .mem (.ar 1 (p1.toList.map eU64)))]) ⟨⟨_, rfl, rfl⟩, Sub.refl _⟩ ⟨rfl, trivial⟩ (Sub.refl _)
                · refine AO.weak (ρ' := [(64, (eBool (decide (t25 = t26))))]) (H' := [(n4, .mem (.ar 1 (p0.toList.map eU64))), (n5, .mem (.ar 1 (p1.toList.map eU64)))]) ⟨rfl, trivial⟩ (Sub.refl _) ?_
                  refine AO.skipG 7 false 64 rfl rfl (congrArg (fun b => some (AV.fl (Value.bool b))) (decide_eq_false hc27)) 66 rfl (by decide) ?_
                  exact AO.nilE (ρ' := [(66, (.fl undef))]) (H' := [(n4, .mem (.ar 1 (p0.toList.map eU64))), (n5, .mem (.ar 1 (p1.toList.map eU64)))]) ⟨⟨_, rfl, rfl⟩, Sub.refl _⟩ ⟨rfl, trivial⟩ (Sub.refl _)
                · refine AO.weak (ρ' := [(64, (eBool (decide (t25 = t26))))]) (H' := [(n4, .mem (.ar 1 (p0.toList.map eU64))), (n5, .mem (.ar 1 (p1.toList.map eU64)))]) ⟨rfl, trivial⟩ (Sub.refl _) ?_
                  refine AO.skipG 7 false 64 rfl rfl (congrArg (fun b => some (AV.fl (Value.bool b))) (decide_eq_false hc27)) 67 rfl (by decide) ?_
                  exact AO.nilE (ρ' := [(67, (.fl undef))]) (H' := [(n4, .mem (.ar 1 (p0.toList.map eU64))), (n5, .mem (.ar 1 (p1.toList.map eU64)))]) ⟨⟨_, rfl, rfl⟩, Sub.refl _⟩ ⟨rfl, trivial⟩ (Sub.refl _)
                · refine AO.weak (ρ' := [(64, (eBool (decide (t25 = t26))))]) (H' := [(n4, .mem (.ar 1 (p0.toList.map eU64))), (n5, .mem (.ar 1 (p1.toList.map eU64)))]) ⟨rfl, trivial⟩ (Sub.refl _) ?_
                  refine AO.skipG 7 false 64 rfl rfl (congrArg (fun b => some (AV.fl (Value.bool b))) (decide_eq_false hc27)) 68 rfl (by decide) ?_
                  exact AO.nilE (ρ' := [(68, (.fl undef))]) (H' := [(n4, .mem (.ar 1 (p0.toList.map eU64))), (n5, .mem (.ar 1 (p1.toList.map eU64)))]) ⟨⟨_, rfl, rfl⟩, Sub.refl _⟩ ⟨rfl, trivial⟩ (Sub.refl _)
                · refine AO.weak (ρ' := [(64, (eBool (decide (t25 = t26))))]) (H' := [(n4, .mem (.ar 1 (p0.toList.map eU64))), (n5, .mem (.ar 1 (p1.toList.map eU64)))]) ⟨rfl, trivial⟩ (Sub.refl _) ?_
                  refine AO.skipG 7 false 64 rfl rfl (congrArg (fun b => some (AV.fl (Value.bool b))) (decide_eq_false hc27)) 69 rfl (by decide) ?_
                  exact AO.nilE (ρ' := [(69, (.fl undef))]) (H' := [(n4, .mem (.ar 1 (p0.toList.map eU64))), (n5, .mem (.ar 1 (p1.toList.map eU64)))]) ⟨⟨_, rfl, rfl⟩, Sub.refl _⟩ ⟨rfl, trivial⟩ (Sub.refl _)
                · refine AO.weak (ρ' := [(64, (eBool (decide (t25 = t26))))]) (H' := [(n4, .mem (.ar 1 (p0.toList.map eU64))), (n5, .mem (.ar 1 (p1.toList.map eU64)))]) ⟨rfl, trivial⟩ (Sub.refl _) ?_
                  refine AO.skipG 7 false 64 rfl rfl (congrArg (fun b => some (AV.fl (Value.bool b))) (decide_eq_false hc27)) 70 rfl (by decide) ?_
                  exact AO.nilE (ρ' := [(70, (.fl undef))]) (H' := [(n4, .mem (.ar 1 (p0.toList.map eU64))), (n5, .mem (.ar 1 (p1.toList.map eU64)))]) ⟨⟨_, rfl, rfl⟩, Sub.refl _⟩ ⟨rfl, trivial⟩ (Sub.refl _)
                · refine AO.weak (ρ' := [(64, (eBool (decide (t25 = t26))))]) (H' := [(n4, .mem (.ar 1 (p0.toList.map eU64))), (n5, .mem (.ar 1 (p1.toList.map eU64)))]) ⟨rfl, trivial⟩ (Sub.refl _) ?_
                  refine AO.skipG 7 false 64 rfl rfl (congrArg (fun b => some (AV.fl (Value.bool b))) (decide_eq_false hc27)) 71 rfl (by decide) ?_
                  exact AO.nilE (ρ' := [(71, (.fl undef))]) (H' := [(n4, .mem (.ar 1 (p0.toList.map eU64))), (n5, .mem (.ar 1 (p1.toList.map eU64)))]) ⟨⟨_, rfl, rfl⟩, Sub.refl _⟩ ⟨rfl, trivial⟩ (Sub.refl _)
                · refine AO.weak (ρ' := [(64, (eBool (decide (t25 = t26)))), (71, (.fl undef))]) (H' := [(n4, .mem (.ar 1 (p0.toList.map eU64))), (n5, .mem (.ar 1 (p1.toList.map eU64)))]) ⟨rfl, rfl, trivial⟩ (Sub.refl _) ?_
                  refine AO.calm rfl 72 rfl (by decide) (eBool false) (Calm.pickF rfl (congrArg (fun b => some (AV.fl (Value.bool b))) (decide_eq_false hc27)) rfl) ?_
                  exact AO.nilE (ρ' := [(72, (eBool false))]) (H' := [(n4, .mem (.ar 1 (p0.toList.map eU64))), (n5, .mem (.ar 1 (p1.toList.map eU64)))]) ⟨⟨_, rfl, rfl⟩, Sub.refl _⟩ ⟨rfl, trivial⟩ (Sub.refl _)
                · refine AO.weak (ρ' := [(72, (eBool false))]) (H' := [(n4, .mem (.ar 1 (p0.toList.map eU64))), (n5, .mem (.ar 1 (p1.toList.map eU64)))]) ⟨rfl, trivial⟩ (Sub.refl _) ?_
                  refine AO.calm rfl 73 rfl (by decide) (eBool false) (Calm.move rfl rfl) ?_
                  exact AO.nilE (ρ' := [(73, (eBool false))]) (H' := [(n4, .mem (.ar 1 (p0.toList.map eU64))), (n5, .mem (.ar 1 (p1.toList.map eU64)))]) ⟨⟨_, rfl, rfl⟩, Sub.refl _⟩ ⟨rfl, trivial⟩ (Sub.refl _)
                · refine AO.weak (ρ' := [(73, (eBool false))]) (H' := [(n4, .mem (.ar 1 (p0.toList.map eU64))), (n5, .mem (.ar 1 (p1.toList.map eU64)))]) ⟨rfl, trivial⟩ (Sub.refl _) ?_
                  refine AO.skipG 16 false 73 rfl rfl rfl 74 rfl (by decide) ?_
                  exact AO.nilE (ρ' := [(74, (.fl undef))]) (H' := [(n4, .mem (.ar 1 (p0.toList.map eU64))), (n5, .mem (.ar 1 (p1.toList.map eU64)))]) ⟨⟨_, rfl, rfl⟩, Sub.refl _⟩ ⟨rfl, trivial⟩ (Sub.refl _)
                · refine AO.weak (ρ' := [(73, (eBool false))]) (H' := [(n4, .mem (.ar 1 (p0.toList.map eU64))), (n5, .mem (.ar 1 (p1.toList.map eU64)))]) ⟨rfl, trivial⟩ (Sub.refl _) ?_
                  refine AO.skipG 16 false 73 rfl rfl rfl 75 rfl (by decide) ?_
                  exact AO.nilE (ρ' := [(75, (.fl undef))]) (H' := [(n4, .mem (.ar 1 (p0.toList.map eU64))), (n5, .mem (.ar 1 (p1.toList.map eU64)))]) ⟨⟨_, rfl, rfl⟩, Sub.refl _⟩ ⟨rfl, trivial⟩ (Sub.refl _)
                · refine AO.weak (ρ' := [(73, (eBool false))]) (H' := [(n4, .mem (.ar 1 (p0.toList.map eU64))), (n5, .mem (.ar 1 (p1.toList.map eU64)))]) ⟨rfl, trivial⟩ (Sub.refl _) ?_
                  refine AO.skipG 16 false 73 rfl rfl rfl 76 rfl (by decide) ?_
                  exact AO.nilE (ρ' := [(76, (.fl undef))]) (H' := [(n4, .mem (.ar 1 (p0.toList.map eU64))), (n5, .mem (.ar 1 (p1.toList.map eU64)))]) ⟨⟨_, rfl, rfl⟩, Sub.refl _⟩ ⟨rfl, trivial⟩ (Sub.refl _)
                · refine AO.weak (ρ' := [(73, (eBool false))]) (H' := [(n4, .mem (.ar 1 (p0.toList.map eU64))), (n5, .mem (.ar 1 (p1.toList.map eU64)))]) ⟨rfl, trivial⟩ (Sub.refl _) ?_
                  refine AO.skipG 16 false 73 rfl rfl rfl 77 rfl (by decide) ?_
                  exact AO.nilE (ρ' := [(77, (.fl undef))]) (H' := [(n4, .mem (.ar 1 (p0.toList.map eU64))), (n5, .mem (.ar 1 (p1.toList.map eU64)))]) ⟨⟨_, rfl, rfl⟩, Sub.refl _⟩ ⟨rfl, trivial⟩ (Sub.refl _)
                · refine AO.weak (ρ' := [(73, (eBool false))]) (H' := [(n4, .mem (.ar 1 (p0.toList.map eU64))), (n5, .mem (.ar 1 (p1.toList.map eU64)))]) ⟨rfl, trivial⟩ (Sub.refl _) ?_
                  refine AO.skipG 16 false 73 rfl rfl rfl 78 rfl (by decide) ?_
                  exact AO.nilE (ρ' := [(78, (.fl undef))]) (H' := [(n4, .mem (.ar 1 (p0.toList.map eU64))), (n5, .mem (.ar 1 (p1.toList.map eU64)))]) ⟨⟨_, rfl, rfl⟩, Sub.refl _⟩ ⟨rfl, trivial⟩ (Sub.refl _)
                · refine AO.weak (ρ' := [(73, (eBool false))]) (H' := [(n4, .mem (.ar 1 (p0.toList.map eU64))), (n5, .mem (.ar 1 (p1.toList.map eU64)))]) ⟨rfl, trivial⟩ (Sub.refl _) ?_
                  refine AO.skipG 16 false 73 rfl rfl rfl 79 rfl (by decide) ?_
                  exact AO.nilE (ρ' := [(79, (.fl undef))]) (H' := [(n4, .mem (.ar 1 (p0.toList.map eU64))), (n5, .mem (.ar 1 (p1.toList.map eU64)))]) ⟨⟨_, rfl, rfl⟩, Sub.refl _⟩ ⟨rfl, trivial⟩ (Sub.refl _)
                · refine AO.weak (ρ' := [(73, (eBool false))]) (H' := [(n4, .mem (.ar 1 (p0.toList.map eU64))), (n5, .mem (.ar 1 (p1.toList.map eU64)))]) ⟨rfl, trivial⟩ (Sub.refl _) ?_
                  refine AO.skipG 16 false 73 rfl rfl rfl 80 rfl (by decide) ?_
                  exact AO.nilE (ρ' := [(80, (.fl undef))]) (H' := [(n4, .mem (.ar 1 (p0.toList.map eU64))), (n5, .mem (.ar 1 (p1.toList.map eU64)))]) ⟨⟨_, rfl, rfl⟩, Sub.refl _⟩ ⟨rfl, trivial⟩ (Sub.refl _)
                · refine AO.weak (ρ' := [(73, (eBool false)), (80, (.fl undef))]) (H' := [(n4, .mem (.ar 1 (p0.toList.map eU64))), (n5, .mem (.ar 1 (p1.toList.map eU64)))]) ⟨rfl, rfl, trivial⟩ (Sub.refl _) ?_
                  refine AO.calm rfl 81 rfl (by decide) (eBool false) (Calm.pickF rfl rfl rfl) ?_
                  exact AO.nilE (ρ' := [(81, (eBool false))]) (H' := [(n4, .mem (.ar 1 (p0.toList.map eU64))), (n5, .mem (.ar 1 (p1.toList.map eU64)))]) ⟨⟨_, rfl, rfl⟩, Sub.refl _⟩ ⟨rfl, trivial⟩ (Sub.refl _)
                · refine AO.weak (ρ' := [(81, (eBool false))]) (H' := [(n4, .mem (.ar 1 (p0.toList.map eU64))), (n5, .mem (.ar 1 (p1.toList.map eU64)))]) ⟨rfl, trivial⟩ (Sub.refl _) ?_
                  refine AO.calm rfl 82 rfl (by decide) (eBool false) (Calm.move rfl rfl) ?_
                  exact AO.nilE (ρ' := [(82, (eBool false))]) (H' := [(n4, .mem (.ar 1 (p0.toList.map eU64))), (n5, .mem (.ar 1 (p1.toList.map eU64)))]) ⟨⟨_, rfl, rfl⟩, Sub.refl _⟩ ⟨rfl, trivial⟩ (Sub.refl _)
                · refine AO.weak (ρ' := [(82, (eBool false))]) (H' := [(n4, .mem (.ar 1 (p0.toList.map eU64))), (n5, .mem (.ar 1 (p1.toList.map eU64)))]) ⟨rfl, trivial⟩ (Sub.refl _) ?_
                  refine AO.skipG 25 false 82 rfl rfl rfl 83 rfl (by decide) ?_
                  exact AO.nilE (ρ' := [(83, (.fl undef))]) (H' := [(n4, .mem (.ar 1 (p0.toList.map eU64))), (n5, .mem (.ar 1 (p1.toList.map eU64)))]) ⟨⟨_, rfl, rfl⟩, Sub.refl _⟩ ⟨rfl, trivial⟩ (Sub.refl _)
                · refine AO.weak (ρ' := [(82, (eBool false))]) (H' := [(n4, .mem (.ar 1 (p0.toList.map eU64))), (n5, .mem (.ar 1 (p1.toList.map eU64)))]) ⟨rfl, trivial⟩ (Sub.refl _) ?_
                  refine AO.skipG 25 false 82 rfl rfl rfl 84 rfl (by decide) ?_
                  exact AO.nilE (ρ' := [(84, (.fl undef))]) (H' := [(n4, .mem (.ar 1 (p0.toList.map eU64))), (n5, .mem (.ar 1 (p1.toList.map eU64)))]) ⟨⟨_, rfl, rfl⟩, Sub.refl _⟩ ⟨rfl, trivial⟩ (Sub.refl _)
                · refine AO.weak (ρ' := [(82, (eBool false))]) (H' := [(n4, .mem (.ar 1 (p0.toList.map eU64))), (n5, .mem (.ar 1 (p1.toList.map eU64)))]) ⟨rfl, trivial⟩ (Sub.refl _) ?_
                  refine AO.skipG 25 false 82 rfl rfl rfl 85 rfl (by decide) ?_
                  exact AO.nilE (ρ' := [(85, (.fl undef))]) (H' := [(n4, .mem (.ar 1 (p0.toList.map eU64))), (n5, .mem (.ar 1 (p1.toList.map eU64)))]) ⟨⟨_, rfl, rfl⟩, Sub.refl _⟩ ⟨rfl, trivial⟩ (Sub.refl _)
                · refine AO.weak (ρ' := [(82, (eBool false))]) (H' := [(n4, .mem (.ar 1 (p0.toList.map eU64))), (n5, .mem (.ar 1 (p1.toList.map eU64)))]) ⟨rfl, trivial⟩ (Sub.refl _) ?_
                  refine AO.skipG 25 false 82 rfl rfl rfl 86 rfl (by decide) ?_
                  exact AO.nilE (ρ' := [(86, (.fl undef))]) (H' := [(n4, .mem (.ar 1 (p0.toList.map eU64))), (n5, .mem (.ar 1 (p1.toList.map eU64)))]) ⟨⟨_, rfl, rfl⟩, Sub.refl _⟩ ⟨rfl, trivial⟩ (Sub.refl _)
                · refine AO.weak (ρ' := [(82, (eBool false))]) (H' := [(n4, .mem (.ar 1 (p0.toList.map eU64))), (n5, .mem (.ar 1 (p1.toList.map eU64)))]) ⟨rfl, trivial⟩ (Sub.refl _) ?_
                  refine AO.skipG 25 false 82 rfl rfl rfl 87 rfl (by decide) ?_
                  exact AO.nilE (ρ' := [(87, (.fl undef))]) (H' := [(n4, .mem (.ar 1 (p0.toList.map eU64))), (n5, .mem (.ar 1 (p1.toList.map eU64)))]) ⟨⟨_, rfl, rfl⟩, Sub.refl _⟩ ⟨rfl, trivial⟩ (Sub.refl _)
                · refine AO.weak (ρ' := [(82, (eBool false))]) (H' := [(n4, .mem (.ar 1 (p0.toList.map eU64))), (n5, .mem (.ar 1 (p1.toList.map eU64)))]) ⟨rfl, trivial⟩ (Sub.refl _) ?_
                  refine AO.skipG 25 false 82 rfl rfl rfl 88 rfl (by decide) ?_
                  exact AO.nilE (ρ' := [(88, (.fl undef))]) (H' := [(n4, .mem (.ar 1 (p0.toList.map eU64))), (n5, .mem (.ar 1 (p1.toList.map eU64)))]) ⟨⟨_, rfl, rfl⟩, Sub.refl _⟩ ⟨rfl, trivial⟩ (Sub.refl _)
                · refine AO.weak (ρ' := [(82, (eBool false)), (88, (.fl undef))]) (H' := [(n4, .mem (.ar 1 (p0.toList.map eU64))), (n5, .mem (.ar 1 (p1.toList.map eU64)))]) ⟨rfl, rfl, trivial⟩ (Sub.refl _) ?_
                  refine AO.calm rfl 89 rfl (by decide) (eBool false) (Calm.pickF rfl rfl rfl) ?_
                  exact AO.nilE (ρ' := [(89, (eBool false))]) (H' := [(n4, .mem (.ar 1 (p0.toList.map eU64))), (n5, .mem (.ar 1 (p1.toList.map eU64)))]) ⟨⟨_, rfl, rfl⟩, Sub.refl _⟩ ⟨rfl, trivial⟩ (Sub.refl _)
                · refine AO.weak (ρ' := [(89, (eBool false))]) (H' := [(n4, .mem (.ar 1 (p0.toList.map eU64))), (n5, .mem (.ar 1 (p1.toList.map eU64)))]) ⟨rfl, trivial⟩ (Sub.refl _) ?_
                  refine AO.calm rfl 90 rfl (by decide) (eBool false) (Calm.move rfl rfl) ?_
                  exact AO.nilE (ρ' := [(90, (eBool false))]) (H' := [(n4, .mem (.ar 1 (p0.toList.map eU64))), (n5, .mem (.ar 1 (p1.toList.map eU64)))]) ⟨⟨_, rfl, rfl⟩, Sub.refl _⟩ ⟨rfl, trivial⟩ (Sub.refl _)
                · refine AO.weak (ρ' := [(90, (eBool false))]) (H' := [(n4, .mem (.ar 1 (p0.toList.map eU64))), (n5, .mem (.ar 1 (p1.toList.map eU64)))]) ⟨rfl, trivial⟩ (Sub.refl _) ?_
                  refine AO.skipG 33 false 90 rfl rfl rfl 91 rfl (by decide) ?_
                  exact AO.nilE (ρ' := [(91, (.fl undef))]) (H' := [(n4, .mem (.ar 1 (p0.toList.map eU64))), (n5, .mem (.ar 1 (p1.toList.map eU64)))]) ⟨⟨_, rfl, rfl⟩, Sub.refl _⟩ ⟨rfl, trivial⟩ (Sub.refl _)
                · refine AO.weak (ρ' := [(90, (eBool false))]) (H' := [(n4, .mem (.ar 1 (p0.toList.map eU64))), (n5, .mem (.ar 1 (p1.toList.map eU64)))]) ⟨rfl, trivial⟩ (Sub.refl _) ?_
                  refine AO.skipG 33 false 90 rfl rfl rfl 92 rfl (by decide) ?_
                  exact AO.nilE (ρ' := [(92, (.fl undef))]) (H' := [(n4, .mem (.ar 1 (p0.toList.map eU64))), (n5, .mem (.ar 1 (p1.toList.map eU64)))]) ⟨⟨_, rfl, rfl⟩, Sub.refl _⟩ ⟨rfl, trivial⟩ (Sub.refl _)
                · refine AO.weak (ρ' := [(90, (eBool false))]) (H' := [(n4, .mem (.ar 1 (p0.toList.map eU64))), (n5, .mem (.ar 1 (p1.toList.map eU64)))]) ⟨rfl, trivial⟩ (Sub.refl _) ?_
                  refine AO.skipG 33 false 90 rfl rfl rfl 93 rfl (by decide) ?_
                  exact AO.nilE (ρ' := [(93, (.fl undef))]) (H' := [(n4, .mem (.ar 1 (p0.toList.map eU64))), (n5, .mem (.ar 1 (p1.toList.map eU64)))]) ⟨⟨_, rfl, rfl⟩, Sub.refl _⟩ ⟨rfl, trivial⟩ (Sub.refl _)
                · refine AO.weak (ρ' := [(90, (eBool false))]) (H' := [(n4, .mem (.ar 1 (p0.toList.map eU64))), (n5, .mem (.ar 1 (p1.toList.map eU64)))]) ⟨rfl, trivial⟩ (Sub.refl _) ?_
                  refine AO.skipG 33 false 90 rfl rfl rfl 94 rfl (by decide) ?_
                  exact AO.nilE (ρ' := [(94, (.fl undef))]) (H' := [(n4, .mem (.ar 1 (p0.toList.map eU64))), (n5, .mem (.ar 1 (p1.toList.map eU64)))]) ⟨⟨_, rfl, rfl⟩, Sub.refl _⟩ ⟨rfl, trivial⟩ (Sub.refl _)
                · refine AO.weak (ρ' := [(90, (eBool false))]) (H' := [(n4, .mem (.ar 1 (p0.toList.map eU64))), (n5, .mem (.ar 1 (p1.toList.map eU64)))]) ⟨rfl, trivial⟩ (Sub.refl _) ?_
                  refine AO.skipG 33 false 90 rfl rfl rfl 95 rfl (by decide) ?_
                  exact AO.nilE (ρ' := [(95, (.fl undef))]) (H' := [(n4, .mem (.ar 1 (p0.toList.map eU64))), (n5, .mem (.ar 1 (p1.toList.map eU64)))]) ⟨⟨_, rfl, rfl⟩, Sub.refl _⟩ ⟨rfl, trivial⟩ (Sub.refl _)
                · refine AO.weak (ρ' := [(90, (eBool false)), (95, (.fl undef))]) (H' := [(n4, .mem (.ar 1 (p0.toList.map eU64))), (n5, .mem (.ar 1 (p1.toList.map eU64)))]) ⟨rfl, rfl, trivial⟩ (Sub.refl _) ?_
                  refine AO.calm rfl 96 rfl (by decide) (eBool false) (Calm.pickF rfl rfl rfl) ?_
                  exact AO.nilE (ρ' := [(96, (eBool false))]) (H' := [(n4, .mem (.ar 1 (p0.toList.map eU64))), (n5, .mem (.ar 1 (p1.toList.map eU64)))]) ⟨⟨_, rfl, rfl⟩, Sub.refl _⟩ ⟨rfl, trivial⟩ (Sub.refl _)
                · refine AO.weak (ρ' := [(96, (eBool false))]) (H' := [(n4, .mem (.ar 1 (p0.toList.map eU64))), (n5, .mem (.ar 1 (p1.toList.map eU64)))]) ⟨rfl, trivial⟩ (Sub.refl _) ?_
                  refine AO.calm rfl 6 rfl (by decide) (eBool false) (Calm.assign rfl rfl) ?_
                  exact AO.nilE (ρ' := [(6, (eBool false))]) (H' := [(n4, .mem (.ar 1 (p0.toList.map eU64))), (n5, .mem (.ar 1 (p1.toList.map eU64)))]) ⟨⟨_, rfl, rfl⟩, Sub.refl _⟩ ⟨rfl, trivial⟩ (Sub.refl _)
              · cases hq24
                exact ⟨rfl, rfl, rfl⟩
          · refine AW.ret (ρ' := [(6, (eBool b23))]) (H' := []) ⟨rfl, trivial⟩ (Sub.refl _) ?_
            have hr := Option.some.inj h
            subst hr
            exact ⟨[(eBool b23)], ⟨rfl, rfl, trivial⟩, rfl⟩
end Go.Avl.TD
